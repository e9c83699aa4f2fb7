/-
  WHAT THE PROOF STANDS ON, PART 5: contracts of the program's functions and the logic that they are proved in. No condition.
-/
import Derived.Test.YteehcinnfiaklaaGreatDoorQ4
set_option maxRecDepth 100000
set_option maxHeartbeats 4000000
set_option linter.unusedVariables false
set_option linter.unusedSimpArgs false
set_option linter.unusedSectionVars false
namespace Go.Abs
open Go Go.Proofs Tryz
attribute [local irreducible] q9 Hold y8
end Go.Abs

namespace Go.Abs
open Go Go.Proofs Tryz
attribute [local irreducible] q9 Hold y8
theorem zO8 {a b c : Str} (ha : ValidN a) (hb1 : ValidN b) (hc1 : ValidN c) : ∀ x, x ∈ [a, b, c] → ValidN x := fun x hx => by
 simp only [List.mem_cons, List.not_mem_nil, or_false] at hx
 rcases hx with rfl | rfl | rfl
 ·exact ha
 ·exact hb1
 ·exact hc1
end Go.Abs

namespace Go.Abs
open Go Go.Proofs Tryz
attribute [local irreducible] q9 Hold y8
theorem zOk {s : Str} (v : ValidN s) (h : s.all w7 = true) : y7 (s.getD 0 0) = false := by
 have := List.all_eq_true.1 h _ v.mem0
 exact zGb this
theorem zOr {l : List Str} {i : Nat} (h : i < l.length) : (l.map zMg).getD i default = zMg (l.getD i default) := by
 simp [List.getD, h]
def zOI (l : List Str) (i : Nat) (ks : List Str) : Prop := ks = (l.take i).map zMg
theorem zPE (nums : List Int) (h : nums.length ≤ 4294967296) : zMf prog 9 [R0 nums] [] (bV true) [] := by
 obtain ⟨d0, s0, hd0⟩ := zJ5 nums h
 obtain ⟨x0, d1, s1, v0, hd1⟩ := zK4 d0 4 hd0 (by omega)
 obtain ⟨x1, d2, s2, v1, hd2⟩ := zK4 d1 4 hd1 (by omega)
 obtain ⟨x2, d3, s3, v2, hd3⟩ := zK4 d2 6 hd2 (by omega)
 have hv := zO8 v0 v1 v2
 have sS := zMV
 obtain ⟨l, hl⟩ : ∃ l, [x0, x1, x2] = l := ⟨_, rfl⟩
 have hl3 : l.length = 3 := by rw [← hl]; rfl
 have hlm : [sV x0, sV x1, sV x2] = List.map sV l := by rw [← hl]; rfl
 have htk : List.take 3 (List.map sV l) = List.map sV l := List.take_of_length_le (by simp; omega)
 rw [hl] at hv
 clear v0 v1 v2 hd0 hd1 hd2 hd3 h hl
 refine q7 func9 rfl (fun E hE => ?_); simp only [go_sem, ntmps9]
 repeat' (first | (refine Qr rfl ?_; try intro _ hK; try simp only [go_sem, *]) | (refine Qi rfl rfl rfl rfl ?_ ?_ <;> (intro hb; (try intro _ hK); have hc := hb; try simp only [go_sem] at hc; simp only [go_sem, *])) | refine Qh rfl ?_ | refine Qd rfl (by kernel_rfl) ?_ | (refine Qc rfl rfl ?_ ?_ <;> (intro hb; have hc := hb; try simp only [go_sem] at hc)) | refine q6 rfl ?_ | (refine Qb ?_ ?_; focus kernel_rfl) | (refine j0 (s0) ?_; simp only [go_sem, *]) | (refine u7 [0] [] (s1) (by simp) ?_ ?_ (by simp) (.inl rfl) ?_ ?_ ?_; (iterate 2 (focus (simp only [go_sem, *]; done))); (iterate 2 (focus (first | (simp; done) | (simp [go_sem]; done)))); simp only [go_sem, *]) | (refine u7 [0] [] (s2) (by simp) ?_ ?_ (by simp) (.inl rfl) ?_ ?_ ?_; (iterate 2 (focus (simp only [go_sem, *]; done))); (iterate 2 (focus (first | (simp; done) | (simp [go_sem]; done)))); simp only [go_sem, *]) | (refine u7 [0] [] (s3) (by simp) ?_ ?_ (by simp) (.inl rfl) ?_ ?_ ?_; (iterate 2 (focus (simp only [go_sem, *]; done))); (iterate 2 (focus (first | (simp; done) | (simp [go_sem]; done)))); simp only [go_sem, *]) | ((with_reducible apply And.intro); focus omega) | (refine z8 hK ?_; clear hK; simp only [go_sem, *]) | simp only [z7, z6, go_sem, *])
 refine a7 rfl (3) (fun i (ks : List Str) => zOI l i ks) 164 (fun i ks => [(6, iV i), (5, .own 0 1 0 i), (4, y4 l)]) (fun i ks => [.row 1 (ks.map sV)]) [none] [1] ([]) (by exact rfl) ?_; intro i ks hi hP
 clear s0 s1 s2 s3 hlm htk
 by_cases hi2 : i < 3
 ·have hil : i < l.length := by omega
  have hii : (i : Int) < 3 := by omega
  have vi := hv _ (j3 hil)
  have ki := zMO vi
  have so := zMQ (l.getD i default)
  have sl := zMU (l.getD i default) vi.ne
  have hwi : IntKind.i64.wrap ((i : Int) + 1) = ((i + 1 : Nat) : Int) := r9 (by omega)
  have hP2 : zOI l (i + 1) (ks ++ [zMg (l.getD i default)]) := by unfold zOI at hP ⊢; rw [hP, zA2 hil]; simp
  have hkl : ks.length = i := by unfold zOI at hP; rw [hP]; simp; omega
  have hself : y7 ((l.getD i default).getD 0 0) = false → W2 (l.getD i default) = 0 ∧ T2 (l.getD i default) = l.getD i default := fun hf => zLi vi (vi.other hf)
  have hoc := zLh vi
  have hoa := zLg vi
  clear hP
  generalize T2 (l.getD i default) = o at *
  generalize W2 (l.getD i default) = e at *
  generalize zMg (l.getD i default) = k at *
  rcases hoc with h0 | h0
  ·obtain ⟨vo, hoo, hko⟩ := hoa h0
   subst h0
   have ko := zMO vo
   rw [hko] at ko
   have so2 := zMQ o
   rw [(zLi vo hoo).1, (zLi vo hoo).2] at so2
   have sl2 := zMU o vo.ne
   rw [zOk vo hoo] at sl2
   have hon : ((o.length : Int) == 0) = false := by have := vo.ne; rw [beq_eq_false_iff_ne]; omega
   cases hla : y7 ((l.getD i default).getD 0 0)
   ·have hos := (hself hla).2
    rw [hla] at sl
    have hkk : (k != k) = false := by simp
    clear hself hoa hko hoo
    subst hos
    have hob : (l.getD i default != l.getD i default) = false := by simp
    repeat' (first | (refine Qr rfl ?_; try intro _ hK; try simp only [go_sem, *]) | (refine Qi rfl rfl rfl rfl ?_ ?_ <;> (intro hb; (try intro _ hK); have hc := hb; try simp only [go_sem] at hc; simp only [go_sem, *])) | refine Qh rfl ?_ | refine Qd rfl (by kernel_rfl) ?_ | (refine Qc rfl rfl ?_ ?_ <;> (intro hb; have hc := hb; try simp only [go_sem] at hc)) | refine q6 rfl ?_ | (refine Qb ?_ ?_; focus kernel_rfl) | (refine w5 (ki) ?_ ?_; (focus (simp only [go_sem, *]; done)); simp only [go_sem, *]) | (refine w5 (so) ?_ ?_; (focus (simp only [go_sem, *]; done)); simp only [go_sem, *]) | (refine w5 (sl) ?_ ?_; (focus (simp only [go_sem, *]; done)); simp only [go_sem, *]) | (refine w5 (ko) ?_ ?_; (focus (simp only [go_sem, *]; done)); simp only [go_sem, *]) | (refine w5 (so2) ?_ ?_; (focus (simp only [go_sem, *]; done)); simp only [go_sem, *]) | (refine w5 (sl2) ?_ ?_; (focus (simp only [go_sem, *]; done)); simp only [go_sem, *]) | ((with_reducible apply And.intro); focus omega) | (refine z8 hK ?_; clear hK; simp only [go_sem, *]) | simp only [z7, z6, go_sem, *])
    all_goals try contradiction
    exact o7 (i' := i + 1) [some 2] [] (ks ++ [k]) (by exact hP2)
   ·rw [hla] at sl
    have hkk : (k != k) = false := by simp
    have hob : (o != o) = false := by simp
    clear hself hoa hko hoo
    repeat' (first | (refine Qr rfl ?_; try intro _ hK; try simp only [go_sem, *]) | (refine Qi rfl rfl rfl rfl ?_ ?_ <;> (intro hb; (try intro _ hK); have hc := hb; try simp only [go_sem] at hc; simp only [go_sem, *])) | refine Qh rfl ?_ | refine Qd rfl (by kernel_rfl) ?_ | (refine Qc rfl rfl ?_ ?_ <;> (intro hb; have hc := hb; try simp only [go_sem] at hc)) | refine q6 rfl ?_ | (refine Qb ?_ ?_; focus kernel_rfl) | (refine w5 (ki) ?_ ?_; (focus (simp only [go_sem, *]; done)); simp only [go_sem, *]) | (refine w5 (so) ?_ ?_; (focus (simp only [go_sem, *]; done)); simp only [go_sem, *]) | (refine w5 (sl) ?_ ?_; (focus (simp only [go_sem, *]; done)); simp only [go_sem, *]) | (refine w5 (ko) ?_ ?_; (focus (simp only [go_sem, *]; done)); simp only [go_sem, *]) | (refine w5 (so2) ?_ ?_; (focus (simp only [go_sem, *]; done)); simp only [go_sem, *]) | (refine w5 (sl2) ?_ ?_; (focus (simp only [go_sem, *]; done)); simp only [go_sem, *]) | ((with_reducible apply And.intro); focus omega) | (refine z8 hK ?_; clear hK; simp only [go_sem, *]) | simp only [z7, z6, go_sem, *])
    all_goals try contradiction
    exact o7 (i' := i + 1) [some 2] [] (ks ++ [k]) (by exact hP2)
  ·subst h0
   have hla : y7 ((l.getD i default).getD 0 0) = true := by
    cases h : y7 ((l.getD i default).getD 0 0) with
    | true => rfl
    | false => have := (hself h).1; cases this
   rw [hla] at sl
   clear hself hoa
   repeat' (first | (refine Qr rfl ?_; try intro _ hK; try simp only [go_sem, *]) | (refine Qi rfl rfl rfl rfl ?_ ?_ <;> (intro hb; (try intro _ hK); have hc := hb; try simp only [go_sem] at hc; simp only [go_sem, *])) | refine Qh rfl ?_ | refine Qd rfl (by kernel_rfl) ?_ | (refine Qc rfl rfl ?_ ?_ <;> (intro hb; have hc := hb; try simp only [go_sem] at hc)) | refine q6 rfl ?_ | (refine Qb ?_ ?_; focus kernel_rfl) | (refine w5 (ki) ?_ ?_; (focus (simp only [go_sem, *]; done)); simp only [go_sem, *]) | (refine w5 (so) ?_ ?_; (focus (simp only [go_sem, *]; done)); simp only [go_sem, *]) | (refine w5 (sl) ?_ ?_; (focus (simp only [go_sem, *]; done)); simp only [go_sem, *]) | ((with_reducible apply And.intro); focus omega) | (refine z8 hK ?_; clear hK; simp only [go_sem, *]) | simp only [z7, z6, go_sem, *])
   all_goals try contradiction
   exact o7 (i' := i + 1) [some 2] [] (ks ++ [k]) (by exact hP2)
 ·have hie : i = 3 := by omega
  subst hie
  unfold zOI at hP
  rw [List.take_of_length_le (by omega)] at hP
  have hk3 : ks.length = 3 := by rw [hP]; simp [hl3]
  have hii : ¬ ((3 : Nat) : Int) < 3 := by omega
  have htk : List.take 3 (List.map sV ks) = List.map sV ks := List.take_of_length_le (by simp; omega)
  have hge : ∀ j, j < l.length → ks.getD j default = zMg (l.getD j default) := fun j hj => by rw [hP]; exact zOr hj
  clear hP
  repeat' (first | (refine Qr rfl ?_; try intro _ hK; try simp only [go_sem, *]) | (refine Qi rfl rfl rfl rfl ?_ ?_ <;> (intro hb; (try intro _ hK); have hc := hb; try simp only [go_sem] at hc; simp only [go_sem, *])) | refine Qh rfl ?_ | refine Qd rfl (by kernel_rfl) ?_ | (refine Qc rfl rfl ?_ ?_ <;> (intro hb; have hc := hb; try simp only [go_sem] at hc)) | refine q6 rfl ?_ | (refine Qb ?_ ?_; focus kernel_rfl) | ((with_reducible apply And.intro); focus omega) | (refine z8 hK ?_; clear hK; simp only [go_sem, *]) | simp only [z7, z6, go_sem, *])
  all_goals first | contradiction | omega | skip
  refine o6 rfl (3) (fun a => NoQ a) 164 (fun a => [(15, iV a), (5, y4 ks), (4, y4 l)]) (fun a => []) [] [0] (by trivial) ?_; intro a ha hQ
  by_cases ha2 : a < 3
  ·have hal : a < l.length := by omega
   have hak : a < ks.length := by omega
   have haa : (a : Int) < 3 := by omega
   have va := hv _ (j3 hal)
   have la := zMU (l.getD a default) va.ne
   have ga := hge a hal
   have hwa : IntKind.i64.wrap ((a : Int) + 1) = ((a + 1 : Nat) : Int) := r9 (by omega)
   clear sS
   repeat' (first | (refine Qr rfl ?_; try intro _ hK; try simp only [go_sem, *]) | (refine Qi rfl rfl rfl rfl ?_ ?_ <;> (intro hb; (try intro _ hK); have hc := hb; try simp only [go_sem] at hc; simp only [go_sem, *])) | refine Qh rfl ?_ | refine Qd rfl (by kernel_rfl) ?_ | (refine Qc rfl rfl ?_ ?_ <;> (intro hb; have hc := hb; try simp only [go_sem] at hc)) | refine q6 rfl ?_ | (refine Qb ?_ ?_; focus kernel_rfl) | ((with_reducible apply And.intro); focus omega) | (refine z8 hK ?_; clear hK; simp only [go_sem, *]) | simp only [z7, z6, go_sem, *])
   all_goals first | contradiction | omega | skip
   refine o6 rfl (a) (fun c => NoQ c) 164 (fun c => [(16, iV c), (15, iV a), (5, y4 ks), (4, y4 l)]) (fun c => []) [] [] (by trivial) ?_; intro c hc hR
   by_cases hc2 : c < a
   ·have hcl : c < l.length := by omega
    have hck : c < ks.length := by omega
    have hc3 : c < 3 := by omega
    have hcc : (c : Int) < (a : Int) := by omega
    have vc := hv _ (j3 hcl)
    have lc := zMU (l.getD c default) vc.ne
    have gc := hge c hcl
    have hwc : IntKind.i64.wrap ((c : Int) + 1) = ((c + 1 : Nat) : Int) := r9 (by omega)
    have hal2 := zKt va vc
    rw [← ga, ← gc] at hal2
    clear ga gc hge
    generalize hxa : ks.getD a default = ka at *
    generalize hxc : ks.getD c default = kc at *
    have hda : (ka == kc) = true ∧ (y7 ((l.getD a default).getD 0 0) == y7 ((l.getD c default).getD 0 0)) = true → (l.getD a default == l.getD c default) = true := fun ⟨h1, h2⟩ => by
     have := hal2 (by simpa using h1) (by simpa using h2)
     rw [this]; simp
    clear hal2
    generalize y7 ((l.getD a default).getD 0 0) = pa at *
    generalize y7 ((l.getD c default).getD 0 0) = pc at *
    cases hkk : (ka == kc)
    ·clear hda
     repeat' (first | (refine Qr rfl ?_; try intro _ hK; try simp only [go_sem, *]) | (refine Qi rfl rfl rfl rfl ?_ ?_ <;> (intro hb; (try intro _ hK); have hc := hb; try simp only [go_sem] at hc; simp only [go_sem, *])) | refine Qh rfl ?_ | refine Qd rfl (by kernel_rfl) ?_ | (refine Qc rfl rfl ?_ ?_ <;> (intro hb; have hc := hb; try simp only [go_sem] at hc)) | refine q6 rfl ?_ | (refine Qb ?_ ?_; focus kernel_rfl) | (refine w5 (la) ?_ ?_; (focus (simp only [go_sem, *]; done)); simp only [go_sem, *]) | (refine w5 (lc) ?_ ?_; (focus (simp only [go_sem, *]; done)); simp only [go_sem, *]) | ((with_reducible apply And.intro); focus omega) | (refine z8 hK ?_; clear hK; simp only [go_sem, *]) | simp only [z7, z6, go_sem, *])
     all_goals first | contradiction | omega | skip
     exact i4 (i' := c + 1) [] [] (by trivial)
    ·cases hpp : (pa == pc)
     ·clear hda
      repeat' (first | (refine Qr rfl ?_; try intro _ hK; try simp only [go_sem, *]) | (refine Qi rfl rfl rfl rfl ?_ ?_ <;> (intro hb; (try intro _ hK); have hc := hb; try simp only [go_sem] at hc; simp only [go_sem, *])) | refine Qh rfl ?_ | refine Qd rfl (by kernel_rfl) ?_ | (refine Qc rfl rfl ?_ ?_ <;> (intro hb; have hc := hb; try simp only [go_sem] at hc)) | refine q6 rfl ?_ | (refine Qb ?_ ?_; focus kernel_rfl) | (refine w5 (la) ?_ ?_; (focus (simp only [go_sem, *]; done)); simp only [go_sem, *]) | (refine w5 (lc) ?_ ?_; (focus (simp only [go_sem, *]; done)); simp only [go_sem, *]) | ((with_reducible apply And.intro); focus omega) | (refine z8 hK ?_; clear hK; simp only [go_sem, *]) | simp only [z7, z6, go_sem, *])
      all_goals first | contradiction | omega | skip
      exact i4 (i' := c + 1) [] [] (by trivial)
     ·have hdd := hda ⟨hkk, hpp⟩
      clear hda
      repeat' (first | (refine Qr rfl ?_; try intro _ hK; try simp only [go_sem, *]) | (refine Qi rfl rfl rfl rfl ?_ ?_ <;> (intro hb; (try intro _ hK); have hc := hb; try simp only [go_sem] at hc; simp only [go_sem, *])) | refine Qh rfl ?_ | refine Qd rfl (by kernel_rfl) ?_ | (refine Qc rfl rfl ?_ ?_ <;> (intro hb; have hc := hb; try simp only [go_sem] at hc)) | refine q6 rfl ?_ | (refine Qb ?_ ?_; focus kernel_rfl) | (refine w5 (la) ?_ ?_; (focus (simp only [go_sem, *]; done)); simp only [go_sem, *]) | (refine w5 (lc) ?_ ?_; (focus (simp only [go_sem, *]; done)); simp only [go_sem, *]) | ((with_reducible apply And.intro); focus omega) | (refine z8 hK ?_; clear hK; simp only [go_sem, *]) | simp only [z7, z6, go_sem, *])
      all_goals first | contradiction | omega | skip
      exact i4 (i' := c + 1) [] [] (by trivial)
   ·have hcc : ¬ (c : Int) < (a : Int) := by omega
    clear ga hge
    repeat' (first | (refine Qr rfl ?_; try intro _ hK; try simp only [go_sem, *]) | (refine Qi rfl rfl rfl rfl ?_ ?_ <;> (intro hb; (try intro _ hK); have hc := hb; try simp only [go_sem] at hc; simp only [go_sem, *])) | refine Qh rfl ?_ | refine Qd rfl (by kernel_rfl) ?_ | (refine Qc rfl rfl ?_ ?_ <;> (intro hb; have hc := hb; try simp only [go_sem] at hc)) | refine q6 rfl ?_ | (refine Qb ?_ ?_; focus kernel_rfl) | ((with_reducible apply And.intro); focus omega) | (refine z8 hK ?_; clear hK; simp only [go_sem, *]) | simp only [z7, z6, go_sem, *])
    all_goals first | contradiction | omega | skip
    exact i4 (i' := a + 1) [] [] (by trivial)
  ·have haa : ¬ (a : Int) < 3 := by omega
   clear hge
   repeat' (first | (refine Qr rfl ?_; try intro _ hK; try simp only [go_sem, *]) | (refine Qi rfl rfl rfl rfl ?_ ?_ <;> (intro hb; (try intro _ hK); have hc := hb; try simp only [go_sem] at hc; simp only [go_sem, *])) | refine Qh rfl ?_ | refine Qd rfl (by kernel_rfl) ?_ | (refine Qc rfl rfl ?_ ?_ <;> (intro hb; have hc := hb; try simp only [go_sem] at hc)) | refine q6 rfl ?_ | (refine Qb ?_ ?_; focus kernel_rfl) | (refine q8 (sS) ?_; simp only [go_sem, *]) | ((with_reducible apply And.intro); focus omega) | (refine z8 hK ?_; clear hK; simp only [go_sem, *]) | simp only [z7, z6, go_sem, *])
   all_goals first | contradiction | omega | skip
   (refine ⟨[_], [], [], ⟨rfl, trivial⟩, ?_⟩; simp only [go_sem, *])
end Go.Abs

