/-
  WHAT THE PROOF STANDS ON, PART 4: contracts of the program's functions and the logic that they are proved in. No condition.
-/
import Derived.Test.YteehcinnfiaklaaGreatDoorQF3
set_option maxRecDepth 100000
set_option maxHeartbeats 4000000
set_option linter.unusedVariables false
set_option linter.unusedSimpArgs false
set_option linter.unusedSectionVars false
namespace Go.Abs
open Go Go.Proofs Tryz
attribute [local irreducible] y6 Hold x5
theorem zIV (k a b : Str) : zMf prog 171 [sV k, sV a, sV b] [] (.fn 190 [.ptr 0 0, .ptr 1 0, .ptr 2 0]) [.box [sV k], .box [sV a], .box [sV b]] := by
 refine q9 func171 rfl (fun E hE => ?_); simp only [go_sem, ntmps171]
 repeat' (first | (refine Qr rfl ?_; try intro _ hK; try simp only [go_sem, *]) | refine Qh rfl ?_ | (refine Qc rfl rfl ?_ ?_ <;> (intro hb; have hc := hb; try simp only [go_sem] at hc)) | refine q8 rfl ?_ | ((with_reducible apply And.intro); focus omega) | (refine q7 hK ?_; clear hK; simp only [go_sem, *]) | simp only [q6, z8, go_sem, *])
 refine ⟨[_], [some 0, some 1, some 2], [], ⟨rfl, trivial⟩, ?_⟩
 simp only [go_sem, *]
theorem zId (k : Str) (l : List Rule) : zMf prog 149 [sV k, w6 l] [] (.fn 170 [.ptr 0 0, .ptr 1 0]) [.box [w6 l], .box [sV k]] := by
 refine q9 func149 rfl (fun E hE => ?_); simp only [go_sem, ntmps149]
 repeat' (first | (refine Qr rfl ?_; try intro _ hK; try simp only [go_sem, *]) | refine Qh rfl ?_ | (refine Qc rfl rfl ?_ ?_ <;> (intro hb; have hc := hb; try simp only [go_sem] at hc)) | refine q8 rfl ?_ | ((with_reducible apply And.intro); focus omega) | (refine q7 hK ?_; clear hK; simp only [go_sem, *]) | simp only [q6, z8, go_sem, *])
 refine ⟨[_], [some 1, some 0], [], ⟨rfl, trivial⟩, ?_⟩
 simp only [go_sem, *]
theorem zJM (D : ChainD) (chain : List Str) (U : UsesD) (S S' : CS) (s : Str) (hyG : e9 prog [sV s] (l8 0 D chain S) (bV true) (l8 0 D chain S')) : e9 prog [sV s] (V2 D chain U S) (bV true) (V2 D chain U S') := by
 refine P9 (L := B3 U.fnU) (env := [(3, .ptr 15 0), (2, .ptr 16 0), (25, .own 17 2 0 2), (27, iV U.j), (26, iV 2), (11, iV U.i), (10, iV U.l.length), (9, w6 U.l)]) (j := none) rfl rfl (fun E l hE => ?_)
 refine j1 rfl ?_
 simp only [B3, c8, go_sem]
 repeat' (first | (refine Qr (ops := _ :: _) rfl ?_; try intro _ hK; try simp only [go_sem, *]) | (refine Qi rfl rfl rfl rfl ?_ ?_ <;> (intro hb; (try intro _ hK); have hc := hb; try simp only [go_sem] at hc; simp only [go_sem, *])) | (refine Qb ?_ ?_; focus kernel_rfl) | ((with_reducible apply And.intro); focus omega) | (refine q7 hK ?_; clear hK; simp only [go_sem, *]) | simp only [q6, z8, go_sem, *])
 refine o0 ?_
 refine ⟨by simp only [go_sem], ?_⟩
 refine P2 (id := 5) rfl ?_
 refine Q8 rfl ?_
 refine zG4 2 rfl rfl rfl ?_
 simp only [List.take_succ_cons, List.take_zero, List.drop_succ_cons, List.drop_zero, go_sem]
 repeat' (first | (refine Qr (ops := _ :: _) rfl ?_; try intro _ hK; try simp only [go_sem, *]) | (refine Qi rfl rfl rfl rfl ?_ ?_ <;> (intro hb; (try intro _ hK); have hc := hb; try simp only [go_sem] at hc; simp only [go_sem, *])) | (refine Qb ?_ ?_; focus kernel_rfl) | ((with_reducible apply And.intro); focus omega) | (refine q7 hK ?_; clear hK; simp only [go_sem, *]) | simp only [q6, z8, go_sem, *])
 refine o0 ?_
 refine zCB rfl ?_
 refine ⟨by show 40 < 44; omega, ?_⟩
 simp only [go_sem]
 refine B6 [1, 2, 3, 4, 5, 6, 7, 8, 9, 10, 11, 12, 13, 14] [] hyG rfl rfl (by simp) (by simp only [go_sem]) (by simp only [go_sem]) (by simp) (.inl rfl) (by simp [go_sem]) (by simp [go_sem]) ?_
 simp only [go_sem]
 repeat' (first | (refine Qr (ops := _ :: _) rfl ?_; try intro _ hK; try simp only [go_sem, *]) | (refine Qi rfl rfl rfl rfl ?_ ?_ <;> (intro hb; (try intro _ hK); have hc := hb; try simp only [go_sem] at hc; simp only [go_sem, *])) | (refine Qb ?_ ?_; focus kernel_rfl) | ((with_reducible apply And.intro); focus omega) | (refine q7 hK ?_; clear hK; simp only [go_sem, *]) | simp only [q6, z8, go_sem, *])
 refine o0 ?_
 refine T4 (t := false) rfl (by simp only [go_sem]) (fun h => by cases h) (fun _ => ?_)
 refine H5 rfl ?_
 simp only [z8, go_sem]
 refine ⟨rfl, [some 0, some 1, some 2, some 3, some 4, some 5, some 6, some 7, some 8, some 9, some 10, some 11, some 12, some 13, some 14, some 15, some 16, some 17], [], ?_⟩
 simp only [go_sem, *]
theorem zIw {l : List Rule} {k : Str} {i : Nat} (h : i < l.length) : o6 (l.drop i) k = (i3 k (l.getD i default).src (l.getD i default).dst ++ i3 k (l.getD i default).dst (l.getD i default).src) ++ o6 (l.drop (i + 1)) k := by
 rw [j4 h]; rfl
def M6 (k u v : Str) : Nat → List Str
 | 0 => i3 k u v ++ i3 k v u
 | 1 => i3 k v u
 | _ => []
theorem zGy (k u v : Str) {j : Nat} (h : j < 2) : ∃ x y : Str, ([.agg [sV u, sV v], .agg [sV v, sV u]] : List AV).getD j .any = .agg [sV x, sV y] ∧ M6 k u v j = i3 k x y ++ M6 k u v (j + 1) ∧ (x = u ∧ y = v ∨ x = v ∧ y = u) := by
 rcases (by omega : j = 0 ∨ j = 1) with rfl | rfl
 ·exact ⟨u, v, rfl, rfl, .inl ⟨rfl, rfl⟩⟩
 ·exact ⟨v, u, rfl, by simp [M6], .inr ⟨rfl, rfl⟩⟩
theorem zB8 {zMs : CS → Prop} {step : CS → Str → CS} (hg : ∀ S s, zMs S → w5 s 1 12 = true → zMs (step S s)) : ∀ (L : List Str) (S : CS), (∀ s, s ∈ L → w5 s 1 12 = true) → zMs S → zMs (L.foldl step S)
 | [], _, _, h => h
 | x :: r, S, hl, h => zB8 hg r _ (fun s hs => hl s (by simp [hs])) (hg S x h (hl x (by simp)))
theorem zHB {k a b s : Str} (h : s ∈ i3 k a b) : w5 s 1 12 = true := by
 obtain ⟨_, _, _, h, _⟩ := mem_replacedN.1 h; exact h
theorem zIe (D : ChainD) (chain : List Str) (zMs : CS → Prop) (step : CS → Str → CS)
    (hy : ∀ S s, zMs S → w5 s 1 12 = true → e9 prog [sV s] (l8 0 D chain S) (bV true) (l8 0 D chain (step S s))) (hg : ∀ S s, zMs S → w5 s 1 12 = true → zMs (step S s))
    (k : Str) (l : List Rule) (hk1 : k.length ≤ 1000) (hl : l.length ≤ 1000) (hr : ∀ r, r ∈ l → r.src.length ≤ 1000 ∧ r.dst.length ≤ 1000) (S0 : CS) (hS : zMs S0) :
    zMf prog 170 [.yld 0, .ptr 14 0, .ptr 15 0] (l8 0 D chain S0 ++ [.box [w6 l], .box [sV k]]) (.tup []) (l8 0 D chain ((o6 l k).foldl step S0) ++ [.box [w6 l], .box [sV k]]) := by
  obtain ⟨T, hT⟩ : ∃ T, (o6 l k).foldl step S0 = T := ⟨_, rfl⟩
  rw [hT]
  have h0 : (o6 (l.drop 0) k).foldl step S0 = T := hT
  clear hT
  simp only [l8, List.cons_append, List.nil_append]
  refine q9 func170 rfl (fun E hE => ?_); simp only [go_sem, ntmps170]
  repeat' (first | (refine Qr rfl ?_; try intro _ hK; try simp only [go_sem, *]) | refine Qh rfl ?_ | (refine Qc rfl rfl ?_ ?_ <;> (intro hb; have hc := hb; try simp only [go_sem] at hc)) | refine q8 rfl ?_ | ((with_reducible apply And.intro); focus omega) | (refine q7 hK ?_; clear hK; simp only [go_sem, *]) | simp only [q6, z8, go_sem, *])
  refine a7 rfl (l.length) (fun i (S : CS) => (o6 (l.drop i) k).foldl step S = T ∧ zMs S) 44 (fun i S => [(11, iV i), (10, iV l.length), (9, w6 l), (3, .ptr 16 0), (2, .ptr 15 0)]) (fun i S => l8 0 D chain S ++ [.box [w6 l], .box [sV k], .box [.yld 0]]) [some 0, some 1, some 2, some 3, some 4, some 5, some 6, some 7, some 8, some 9, some 10, some 11, some 12, some 13, some 14, some 15, some 16] [] (S0) (by exact ⟨h0, hS⟩) ?_; intro i S hi hP
  obtain ⟨hP, hG⟩ := hP
  by_cases hi2 : i < l.length
  · have hrl := hr _ (j9 hi2)
    rw [zIw hi2] at hP
    generalize hsu : (l.getD i default).src = u at *
    generalize hsv : (l.getD i default).dst = v at *
    rw [List.foldl_append] at hP
    have hQ0 : (o6 (l.drop (i + 1)) k).foldl step ((M6 k u v 0).foldl step S) = T := hP
    clear hP hr
    repeat' (first | (refine Qr rfl ?_; try intro _ hK; try simp only [go_sem, *]) | refine Qh rfl ?_ | (refine Qc rfl rfl ?_ ?_ <;> (intro hb; have hc := hb; try simp only [go_sem] at hc)) | refine q8 rfl ?_ | ((with_reducible apply And.intro); focus omega) | (refine q7 hK ?_; clear hK; simp only [go_sem, *]) | simp only [q6, z8, go_sem, *])
    refine a7 rfl (2) (fun j (S2 : CS) => (o6 (l.drop (i + 1)) k).foldl step ((M6 k u v j).foldl step S2) = T ∧ zMs S2) 44 (fun j S2 => [(27, iV j), (26, iV 2), (25, .own 17 2 0 2), (11, iV i), (10, iV l.length), (9, w6 l), (3, .ptr 16 0), (2, .ptr 15 0)]) (fun j S2 => l8 0 D chain S2 ++ [.box [w6 l], .box [sV k], .box [.yld 0], .row 2 (zAo u v)]) [some 0, some 1, some 2, some 3, some 4, some 5, some 6, some 7, some 8, some 9, some 10, some 11, some 12, some 13, some 14, some 15, some 16, some 18] [] (S) (by exact ⟨hQ0, hG⟩) ?_; intro j S2 hj hQ
    obtain ⟨hQ, hG2⟩ := hQ
    by_cases hj2 : j < 2
    · obtain ⟨x, y, hxy, hst, hlen⟩ := zGy k u v hj2
      rw [hst, List.foldl_append] at hQ
      have sr := zIV k x y
      have hxl : x.length ≤ 1000 ∧ y.length ≤ 1000 := by
        rcases hlen with ⟨rfl, rfl⟩ | ⟨rfl, rfl⟩
        · exact hrl
        · exact ⟨hrl.2, hrl.1⟩
      have s1 := fun fn => zIW D chain ⟨k, u, v, i, j, l, fn⟩ zMs step (fun S s h1 h2 => zJM D chain _ S _ s (hy S s h1 h2)) hg k x y hk1 hxl.1 hxl.2 S2 hG2
      have hG3 := zB8 hg (i3 k x y) S2 (fun s hs => zHB hs) hG2
      obtain ⟨S3, hS3⟩ : ∃ S3, (i3 k x y).foldl step S2 = S3 := ⟨_, rfl⟩
      rw [hS3] at hQ hG3
      simp only [hS3] at s1
      clear hlen hst hS3 hy hg hrl hxl hG2
      repeat' (first | (refine Qr rfl ?_; try intro _ hK; try simp only [go_sem, *]) | refine Qh rfl ?_ | (refine Qc rfl rfl ?_ ?_ <;> (intro hb; have hc := hb; try simp only [go_sem] at hc)) | refine q8 rfl ?_ | ((with_reducible apply And.intro); focus omega) | (refine q7 hK ?_; clear hK; simp only [go_sem, *]) | simp only [q6, z8, go_sem, *])
      refine j8 sr ?_ (hu := by (intro j hj; simp only [List.length_cons, List.length_nil] at hj; (obtain rfl | rfl | rfl : j = 0 ∨ j = 1 ∨ j = 2 := by omega) <;> simp [go_sem]))
      simp only [go_sem, *]
      repeat' (first | (refine Qr rfl ?_; try intro _ hK; try simp only [go_sem, *]) | refine Qh rfl ?_ | (refine Qc rfl rfl ?_ ?_ <;> (intro hb; have hc := hb; try simp only [go_sem] at hc)) | refine q8 rfl ?_ | ((with_reducible apply And.intro); focus omega) | (refine q7 hK ?_; clear hK; simp only [go_sem, *]) | simp only [q6, z8, go_sem, *])
      refine R8 (N := 44) (env := [(36, .fn 190 [.ptr 18 0, .ptr 19 0, .ptr 20 0]), (27, iV j), (26, iV 2), (25, .own 17 2 0 2), (11, iV i), (10, iV l.length), (9, w6 l), (3, .ptr 16 0), (2, .ptr 15 0)]) (As := l8 0 D chain S2 ++ [.box [w6 l], .box [sV k], .box [.yld 0], .row 2 (zAo u v), .box [sV k], .box [sV x], .box [sV y]]) [some 0, some 1, some 2, some 3, some 4, some 5, some 6, some 7, some 8, some 9, some 10, some 11, some 12, some 13, some 14, some 15, some 16, some 17, some 19, some 20, some 21] [] (by (simp only [Weak, go_sem, List.map_append, List.map_set, *] <;> (try simp (disch := omega) only [r7]) <;> (try simp) <;> (try omega))) ?_
      refine C6 (f := 190) (caps := [.ptr 18 0, .ptr 19 0, .ptr 20 0]) rfl (by simp only [go_sem]) (by kernel_rfl) (nx := 21) (by simp only [go_sem]) (fun fn => ⟨22, ?_⟩)
      refine p6 [21, 0, 1, 2, 3, 4, 5, 6, 7, 8, 9, 10, 11, 12, 13, 16, 15, 17, 18, 19, 20] [] (s1 fn) (by simp) (by simp only [go_sem]) ?_ (by simp) (.inl rfl) (by simp [go_sem]) (by simp [go_sem]) ?_
      · simp only [go_sem, *]
        rfl
      · simp only [go_sem, *]
        refine ⟨B3 fn, [(3, .ptr 16 0), (2, .ptr 15 0), (25, .own 17 2 0 2), (27, iV j), (26, iV 2), (11, iV i), (10, iV l.length), (9, w6 l)], none, by simp only [go_sem], ?_⟩
        simp only [go_sem]
        repeat' (first | (refine Qr rfl ?_; try intro _ hK; try simp only [go_sem, *]) | refine Qh rfl ?_ | (refine Qc rfl rfl ?_ ?_ <;> (intro hb; have hc := hb; try simp only [go_sem] at hc)) | refine q8 rfl ?_ | ((with_reducible apply And.intro); focus omega) | (refine q7 hK ?_; clear hK; simp only [go_sem, *]) | simp only [q6, z8, go_sem, *])
        all_goals first | contradiction | omega | skip
        exact n0 (i' := j + 1) [some 0, some 1, some 2, some 3, some 4, some 5, some 6, some 7, some 8, some 9, some 10, some 11, some 12, some 13, some 14, some 15, some 16, some 17] [] (S3) (by exact ⟨hQ, hG3⟩)
    · have e2 : M6 k u v j = [] := by
        rcases (by omega : j = 2) with rfl
        rfl
      rw [e2] at hQ
      have hQ : (o6 (l.drop (i + 1)) k).foldl step S2 = T := hQ
      repeat' (first | (refine Qr rfl ?_; try intro _ hK; try simp only [go_sem, *]) | refine Qh rfl ?_ | (refine Qc rfl rfl ?_ ?_ <;> (intro hb; have hc := hb; try simp only [go_sem] at hc)) | refine q8 rfl ?_ | ((with_reducible apply And.intro); focus omega) | (refine q7 hK ?_; clear hK; simp only [go_sem, *]) | simp only [q6, z8, go_sem, *])
      all_goals first | contradiction | omega | skip
      exact n0 (i' := i + 1) [some 0, some 1, some 2, some 3, some 4, some 5, some 6, some 7, some 8, some 9, some 10, some 11, some 12, some 13, some 14, some 15, some 16] [] (S2) (by exact ⟨hQ, hG2⟩)
  · have e : l.drop i = [] := d7 (by omega)
    rw [e] at hP
    have hP : S = T := hP
    subst hP
    repeat' (first | (refine Qr rfl ?_; try intro _ hK; try simp only [go_sem, *]) | refine Qh rfl ?_ | (refine Qc rfl rfl ?_ ?_ <;> (intro hb; have hc := hb; try simp only [go_sem] at hc)) | refine q8 rfl ?_ | ((with_reducible apply And.intro); focus omega) | (refine q7 hK ?_; clear hK; simp only [go_sem, *]) | simp only [q6, z8, go_sem, *])
    all_goals first | contradiction | omega | skip
    refine ⟨[], [some 0, some 1, some 2, some 3, some 4, some 5, some 6, some 7, some 8, some 9, some 10, some 11, some 12, some 13, some 14, some 15], [], trivial, ?_⟩
    simp only [go_sem, f9, *]
end Go.Abs

namespace Go.Abs
open Go Go.Proofs Tryz
attribute [local irreducible] y6 Hold x5
noncomputable def f5 (o : Nat) (D : ChainD) (B : Option (List Str)) : List AObj :=
 [.box [iV D.many], .box [sV D.to], .box [.yld (o + 5)], .box [w6 D.l],
  .box [.fn 147 [.ptr o 0, .ptr (o + 1) 0, .ptr (o + 2) 0, .ptr (o + 3) 0, .ptr (o + 4) 0]],
  .loopo (f6 D.fnF) [(3, .ptr (o + 6) 0), (6, .ptr (o + 7) 0), (7, .ptr (o + 8) 0)] (some none), .box [Z8], .box [o4 B], .box [bV B.isSome]]
attribute [go_sem] f5
abbrev N3 (s : Str) (chain : List Str) : List AV := [sV s, y8 chain, .ptr 0 0, .ptr 1 0, .ptr 2 0, .ptr 3 0, .ptr 4 0]
theorem zJL (D : ChainD) (chain : List Str) (S : CS) (s : Str) (hm : ∀ x, x ∈ S.1 → x.length ≤ 1000) (hs : s.length ≤ 1000) (h : s ∈ S.1) :
  e9 prog [sV s] (l8 0 D chain S) (bV true) (l8 0 D chain S) := by
 refine P9 (L := N4 D.fnG) (env := [(11, .ptr 11 0), (10, .ptr 10 0), (6, .ptr 5 0), (9, .ptr 13 0)]) (j := none) rfl rfl (fun E l hE => ?_)
 refine j1 rfl ?_
 simp only [N4, c8, go_sem]
 repeat' (first | (refine Qr (ops := _ :: _) rfl ?_; try intro _ hK; try simp only [go_sem, *]) | (refine Qi rfl rfl rfl rfl ?_ ?_ <;> (intro hb; (try intro _ hK); have hc := hb; try simp only [go_sem] at hc; simp only [go_sem, *])) | (refine Qb ?_ ?_; focus kernel_rfl) | ((with_reducible apply And.intro); focus omega) | (refine q7 hK ?_; clear hK; simp only [go_sem, *]) | simp only [q6, z8, go_sem, *])
 refine o0 ?_
 refine ⟨by simp only [go_sem], ?_⟩
 refine P2 (id := 1) rfl ?_
 refine Q8 rfl ?_
 refine Q8 rfl ?_
 refine j1 rfl ?_
 simp only [go_sem]
 repeat' (first | (refine Qr (ops := _ :: _) rfl ?_; try intro _ hK; try simp only [go_sem, *]) | (refine Qi rfl rfl rfl rfl ?_ ?_ <;> (intro hb; (try intro _ hK); have hc := hb; try simp only [go_sem] at hc; simp only [go_sem, *])) | (refine Qb ?_ ?_; focus kernel_rfl) | ((with_reducible apply And.intro); focus omega) | (refine q7 hK ?_; clear hK; simp only [go_sem, *]) | simp only [q6, z8, go_sem, *])
 refine zCo hm hs (by simp only [go_sem]) ?_
 simp only [go_sem, *]
 repeat' (first | (refine Qr (ops := _ :: _) rfl ?_; try intro _ hK; try simp only [go_sem, *]) | (refine Qi rfl rfl rfl rfl ?_ ?_ <;> (intro hb; (try intro _ hK); have hc := hb; try simp only [go_sem] at hc; simp only [go_sem, *])) | (refine Qb ?_ ?_; focus kernel_rfl) | ((with_reducible apply And.intro); focus omega) | (refine q7 hK ?_; clear hK; simp only [go_sem, *]) | simp only [q6, z8, go_sem, *])
 refine o0 ?_
 refine T4 (t := true) rfl (by simp only [go_sem]) (fun _ => ?_) (fun h => by cases h)
 refine zG3 rfl ?_
 simp only [q6, z8, go_sem]
 refine ⟨rfl, [some 0, some 1, some 2, some 3, some 4, some 5, some 6, some 7, some 8, some 9, some 10, some 11, some 12, some 13], [], ?_⟩
 simp only [go_sem, *]
theorem zJK (D : ChainD) (chain : List Str) (S : CS) (B' : Option (List Str)) (s : Str) (hm : ∀ x, x ∈ S.1 → x.length ≤ 1000) (hs : s.length ≤ 1000) (h : s ∉ S.1)
  (sg : zMf prog 147 (N3 s chain) (f5 0 D S.2) (bV true) (f5 0 D B')) :
  e9 prog [sV s] (l8 0 D chain S) (bV true) (l8 0 D chain (S.1 ++ [s], B')) := by
 have hca : p7 prog 147 = true := by kernel_rfl
 have hput : zM2 S.1 s = S.1 ++ [s] := by unfold zM2; rw [if_neg h]
 refine P9 (L := N4 D.fnG) (env := [(11, .ptr 11 0), (10, .ptr 10 0), (6, .ptr 5 0), (9, .ptr 13 0)]) (j := none) rfl rfl (fun E l hE => ?_)
 refine j1 rfl ?_
 simp only [N4, c8, go_sem]
 repeat' (first | (refine Qr (ops := _ :: _) rfl ?_; try intro _ hK; try simp only [go_sem, *]) | (refine Qi rfl rfl rfl rfl ?_ ?_ <;> (intro hb; (try intro _ hK); have hc := hb; try simp only [go_sem] at hc; simp only [go_sem, *])) | (refine Qb ?_ ?_; focus kernel_rfl) | ((with_reducible apply And.intro); focus omega) | (refine q7 hK ?_; clear hK; simp only [go_sem, *]) | simp only [q6, z8, go_sem, *])
 refine o0 ?_
 refine ⟨by simp only [go_sem], ?_⟩
 refine P2 (id := 1) rfl ?_
 refine Q8 rfl ?_
 refine Q8 rfl ?_
 refine j1 rfl ?_
 try simp only [go_sem]
 repeat' (first | (refine Qr (ops := _ :: _) rfl ?_; try intro _ hK; try simp only [go_sem, *]) | (refine Qi rfl rfl rfl rfl ?_ ?_ <;> (intro hb; (try intro _ hK); have hc := hb; try simp only [go_sem] at hc; simp only [go_sem, *])) | (refine Qb ?_ ?_; focus kernel_rfl) | ((with_reducible apply And.intro); focus omega) | (refine q7 hK ?_; clear hK; simp only [go_sem, *]) | simp only [q6, z8, go_sem, *])
 refine zCo hm hs (by simp only [go_sem]) ?_
 simp only [go_sem, *]
 repeat' (first | (refine Qr (ops := _ :: _) rfl ?_; try intro _ hK; try simp only [go_sem, *]) | (refine Qi rfl rfl rfl rfl ?_ ?_ <;> (intro hb; (try intro _ hK); have hc := hb; try simp only [go_sem] at hc; simp only [go_sem, *])) | (refine Qb ?_ ?_; focus kernel_rfl) | ((with_reducible apply And.intro); focus omega) | (refine q7 hK ?_; clear hK; simp only [go_sem, *]) | simp only [q6, z8, go_sem, *])
 refine o0 ?_
 refine T4 (t := false) rfl (by simp only [go_sem]) (fun h => by cases h) (fun _ => ?_)
 refine H5 rfl ?_
 refine Q8 rfl ?_
 refine j1 rfl ?_
 try simp only [go_sem]
 repeat' (first | (refine Qr (ops := _ :: _) rfl ?_; try intro _ hK; try simp only [go_sem, *]) | (refine Qi rfl rfl rfl rfl ?_ ?_ <;> (intro hb; (try intro _ hK); have hc := hb; try simp only [go_sem] at hc; simp only [go_sem, *])) | (refine Qb ?_ ?_; focus kernel_rfl) | ((with_reducible apply And.intro); focus omega) | (refine q7 hK ?_; clear hK; simp only [go_sem, *]) | simp only [q6, z8, go_sem, *])
 refine zBB hm hs (by simp only [go_sem]) ?_
 rw [hput]
 repeat' (first | (refine Qr (ops := _ :: _) rfl ?_; try intro _ hK; try simp only [go_sem, *]) | (refine Qi rfl rfl rfl rfl ?_ ?_ <;> (intro hb; (try intro _ hK); have hc := hb; try simp only [go_sem] at hc; simp only [go_sem, *])) | (refine Qb ?_ ?_; focus kernel_rfl) | ((with_reducible apply And.intro); focus omega) | (refine q7 hK ?_; clear hK; simp only [go_sem, *]) | simp only [q6, z8, go_sem, *])
 refine o0 ?_
 refine Q8 rfl ?_
 refine j1 rfl ?_
 try simp only [go_sem]
 repeat' (first | (refine Qr (ops := _ :: _) rfl ?_; try intro _ hK; try simp only [go_sem, *]) | (refine Qi rfl rfl rfl rfl ?_ ?_ <;> (intro hb; (try intro _ hK); have hc := hb; try simp only [go_sem] at hc; simp only [go_sem, *])) | (refine Qb ?_ ?_; focus kernel_rfl) | ((with_reducible apply And.intro); focus omega) | (refine q7 hK ?_; clear hK; simp only [go_sem, *]) | simp only [q6, z8, go_sem, *])
 refine t8 [1, 2, 3, 4, 5, 6, 7, 8, 9] sg ?_
 simp only [go_sem, *]
 repeat' (first | (refine Qr (ops := _ :: _) rfl ?_; try intro _ hK; try simp only [go_sem, *]) | (refine Qi rfl rfl rfl rfl ?_ ?_ <;> (intro hb; (try intro _ hK); have hc := hb; try simp only [go_sem] at hc; simp only [go_sem, *])) | (refine Qb ?_ ?_; focus kernel_rfl) | ((with_reducible apply And.intro); focus omega) | (refine q7 hK ?_; clear hK; simp only [go_sem, *]) | simp only [q6, z8, go_sem, *])
 refine o0 ?_
 refine T4 (t := false) rfl (by simp only [go_sem]) (fun h => by cases h) (fun _ => ?_)
 refine H5 rfl ?_
 simp only [z8, go_sem]
 refine ⟨rfl, [some 0, some 1, some 2, some 3, some 4, some 5, some 6, some 7, some 8, some 9, some 10, some 11, some 12, some 13], [], ?_⟩
 simp only [go_sem, *]
end Go.Abs

namespace Go.Abs
open Go Go.Proofs Tryz
attribute [local irreducible] y6 Hold x5
theorem J5 {α : Type} {cmp : α → α → Int} : ∀ {L : List α} {B : Option α} {b : α}, x7 cmp B L = some b → B = some b ∨ b ∈ L
 | [], B, b, h => by cases B <;> exact .inl h
 | x :: r, none, b, h => by
  rw [x7] at h
  rcases J5 h with h | h
  ·cases h; exact .inr (by simp)
  ·exact .inr (by simp [h])
 | x :: r, some y, b, h => by
  rw [x7] at h
  split at h
  ·rcases J5 h with h | h
   ·cases h; exact .inr (by simp)
   ·exact .inr (by simp [h])
  ·rcases J5 h with h | h
   ·exact .inl h
   ·exact .inr (by simp [h])
@[go_sem] theorem zMZ (pre : List Str) (x : AV) : List.take (pre.length + 1) (List.map sV pre ++ [x]) = List.map sV pre ++ [x] := List.take_of_length_le (by simp)
def V3 (B : Option (List Str)) : Prop := ∀ b, B = some b → b.length ≤ 1000
theorem zEN {l : List Rule} {to now : Str} {n : Nat} {pre : List Str} {B : Option (List Str)} (h : pre.length + n ≤ 900) (hB : V3 B) : V3 (x7 zMi B (o8 l to n now pre)) := fun b hb => by
 rcases J5 hb with h1 | h1
 ·exact hB b h1
 ·obtain ⟨d, rfl, hd⟩ := mem_chainsN.1 h1
  have := zBc hd
  rw [List.length_append]; omega
theorem zIF (D : ChainD) (now : Str) (pre : List Str) (B : Option (List Str)) (hm : (pre.length : Int) = D.many) (hp : pre.length ≤ 100) (q : ¬ now = D.to) :
  zMf prog 147 (N3 now pre) (f5 0 D B) (bV true) (f5 0 D B) := by
 have sc := zAz pre (by omega)
 have g : D.many < ((pre.length + 1 : Nat) : Int) := by omega
 have hq : (now == D.to) = false := by simpa using q
 refine q9 func147 rfl (fun E hE => ?_); simp only [go_sem, ntmps147]
 repeat' (first | (refine Qr rfl ?_; try intro _ hK; try simp only [go_sem, *]) | (refine Qi rfl rfl rfl rfl ?_ ?_ <;> (intro hb; (try intro _ hK); have hc := hb; try simp only [go_sem] at hc; simp only [go_sem, *])) | refine Qh rfl ?_ | (refine j8 (sc) ?_; simp only [go_sem, *]) | ((with_reducible apply And.intro); focus omega) | (refine q7 hK ?_; clear hK; simp only [go_sem, *]) | simp only [q6, z8, go_sem, *])
 refine C5 rfl ⟨true, by simp only [go_sem, *], fun _ => ?_, fun e => by cases e⟩
 refine C7 rfl ?_
 refine G0 6 rfl rfl rfl ?_
 simp only [List.take_succ_cons, List.take_zero, List.drop_succ_cons, List.drop_zero]
 repeat' (first | (refine Qr (ops := _ :: _) rfl ?_; try intro _ hK; try simp only [go_sem, *]) | (refine Qi rfl rfl rfl rfl ?_ ?_ <;> (intro hb; (try intro _ hK); have hc := hb; try simp only [go_sem] at hc; simp only [go_sem, *])) | ((with_reducible apply And.intro); focus omega) | (refine q7 hK ?_; clear hK; simp only [go_sem, *]) | simp only [q6, z8, go_sem, *])
 refine o0 ?_
 refine zCA rfl rfl (by simp only [go_sem, *]) ?_
 refine ⟨by show 28 < 45; omega, ?_⟩
 simp only [go_sem, *]
 repeat' (first | (refine Qr rfl ?_; try intro _ hK; try simp only [go_sem, *]) | (refine Qi rfl rfl rfl rfl ?_ ?_ <;> (intro hb; (try intro _ hK); have hc := hb; try simp only [go_sem] at hc; simp only [go_sem, *])) | refine Qh rfl ?_ | (refine Qc rfl rfl ?_ ?_ <;> (intro hb; have hc := hb; try simp only [go_sem] at hc)) | refine q8 rfl ?_ | ((with_reducible apply And.intro); focus omega) | (refine q7 hK ?_; clear hK; simp only [go_sem, *]) | simp only [q6, z8, go_sem, *])
 refine ⟨[bV true], [some 0, some 1, some 2, some 3, some 4, some 5, some 6, some 7, some 8], [], ⟨by simp only [P3, go_sem], trivial⟩, ?_⟩
 simp only [go_sem, *]
theorem zIG (D : ChainD) (now : Str) (pre : List Str) (B : Option (List Str)) (hm : (pre.length : Int) = D.many) (hp : pre.length ≤ 100) (q : now = D.to) (hB : V3 B) :
  zMf prog 147 (N3 now pre) (f5 0 D B) (bV true) (f5 0 D (x7 zMi B [pre ++ [now]])) := by
 have sc := zAz pre (by omega)
 have g : D.many < ((pre.length + 1 : Nat) : Int) := by omega
 have hq : (now == D.to) = true := by simpa using q
 have sy := zJE D.fnF B (pre ++ [now]) hB (by simp; omega)
 generalize x7 zMi B [pre ++ [now]] = B' at *
 clear q
 refine q9 func147 rfl (fun E hE => ?_); simp only [go_sem, ntmps147]
 repeat' (first | (refine Qr rfl ?_; try intro _ hK; try simp only [go_sem, *]) | (refine Qi rfl rfl rfl rfl ?_ ?_ <;> (intro hb; (try intro _ hK); have hc := hb; try simp only [go_sem] at hc; simp only [go_sem, *])) | refine Qh rfl ?_ | (refine j8 (sc) ?_; simp only [go_sem, *]) | ((with_reducible apply And.intro); focus omega) | (refine q7 hK ?_; clear hK; simp only [go_sem, *]) | simp only [q6, z8, go_sem, *])
 refine R8 (N := 45) (env := [(21, bV true), (0, sV now), (3, .ptr 1 0), (4, .ptr 2 0), (10, .ptr 10 0), (9, .ptr 9 0)]) (As := f5 0 D B ++ [.box [bV false], .box [y8 (pre ++ [now])]]) [some 0, some 1, some 2, some 3, some 4, some 5, some 6, some 7, some 8, some 9, some 13] [12] (by (simp only [Weak, go_sem, List.map_append, List.map_set, *] <;> (try simp (disch := omega) only [r7]) <;> (try simp) <;> (try omega))) ?_
 refine C5 rfl ⟨true, by simp only [go_sem, *], fun _ => ?_, fun e => by cases e⟩
 refine C7 rfl ?_
 refine G0 6 rfl rfl rfl ?_
 simp only [List.take_succ_cons, List.take_zero, List.drop_succ_cons, List.drop_zero, go_sem]
 repeat' (first | (refine Qr (ops := _ :: _) rfl ?_; try intro _ hK; try simp only [go_sem, *]) | (refine Qi rfl rfl rfl rfl ?_ ?_ <;> (intro hb; (try intro _ hK); have hc := hb; try simp only [go_sem] at hc; simp only [go_sem, *])) | ((with_reducible apply And.intro); focus omega) | (refine q7 hK ?_; clear hK; simp only [go_sem, *]) | simp only [q6, z8, go_sem, *])
 refine o0 ?_
 refine zCC rfl rfl (by simp only [go_sem, *]) ?_
 refine ⟨by show 28 < 45; omega, ?_⟩
 simp only [go_sem]
 refine B6 [5, 6, 7, 8] [] sy rfl rfl (by simp) (by simp only [go_sem]) (by simp only [go_sem]) (by simp) (.inl rfl) (by simp [go_sem]) (by simp [go_sem]) ?_
 simp only [go_sem]
 repeat' (first | (refine Qr rfl ?_; try intro _ hK; try simp only [go_sem, *]) | (refine Qi rfl rfl rfl rfl ?_ ?_ <;> (intro hb; (try intro _ hK); have hc := hb; try simp only [go_sem] at hc; simp only [go_sem, *])) | refine Qh rfl ?_ | (refine Qc rfl rfl ?_ ?_ <;> (intro hb; have hc := hb; try simp only [go_sem] at hc)) | refine q8 rfl ?_ | ((with_reducible apply And.intro); focus omega) | (refine q7 hK ?_; clear hK; simp only [go_sem, *]) | simp only [q6, z8, go_sem, *])
 refine ⟨[bV true], [some 0, some 1, some 2, some 3, some 4, some 5, some 6, some 7, some 8], [], ⟨by simp only [P3, go_sem], trivial⟩, ?_⟩
 simp only [go_sem, *]
theorem zIH (D : ChainD) (n : Nat) (IH : ∀ (D : ChainD) (now : Str) (pre : List Str) (B : Option (List Str)), (pre.length : Int) + n = D.many → pre.length + n ≤ 100 → w5 now 1 12 = true → V3 B → D.l.length ≤ 1000 → (∀ r, r ∈ D.l → r.src.length ≤ 1000 ∧ r.dst.length ≤ 1000) →
      zMf prog 147 (N3 now pre) (f5 0 D B) (bV true) (f5 0 D (x7 zMi B (o8 D.l D.to n now pre))))
    (now : Str) (pre : List Str) (B : Option (List Str)) (hm : (pre.length : Int) + (n + 1 : Nat) = D.many) (hp : pre.length + (n + 1) ≤ 100) (hn : w5 now 1 12 = true) (hB : V3 B) (hl : D.l.length ≤ 1000) (hr : ∀ r, r ∈ D.l → r.src.length ≤ 1000 ∧ r.dst.length ≤ 1000) :
    zMf prog 147 (N3 now pre) (f5 0 D B) (bV true) (f5 0 D (x7 zMi B (o8 D.l D.to (n + 1) now pre))) := by
  have sc := zAz pre (by omega)
  have su := zId now D.l
  have g : ¬ D.many < ((pre.length + 1 : Nat) : Int) := by omega
  have hnl : now.length ≤ 1000 := by
    unfold w5 at hn
    simp only [Bool.and_eq_true, decide_eq_true_eq] at hn
    omega
  have s1 : ∀ fn, zMf prog 170 [.yld 0, .ptr 14 0, .ptr 15 0] (l8 0 { D with fnG := fn } (pre ++ [now]) ([], B) ++ [.box [w6 D.l], .box [sV now]]) (.tup []) (l8 0 { D with fnG := fn } (pre ++ [now]) ((o6 D.l now).foldl (Q3 D.l D.to n (pre ++ [now])) ([], B)) ++ [.box [w6 D.l], .box [sV now]]) := fun fn =>
    zIe { D with fnG := fn } (pre ++ [now]) (fun S => (∀ x, x ∈ S.1 → x.length ≤ 1000) ∧ V3 S.2) (Q3 D.l D.to n (pre ++ [now]))
      (fun S s hG hs => by
        have hsl : s.length ≤ 1000 := by
          unfold w5 at hs
          simp only [Bool.and_eq_true, decide_eq_true_eq] at hs
          omega
        by_cases h : s ∈ S.1
        · have e : Q3 D.l D.to n (pre ++ [now]) S s = S := by unfold Q3; rw [if_pos h]
          rw [e]; exact zJL _ _ S s hG.1 hsl h
        · have e : Q3 D.l D.to n (pre ++ [now]) S s = (S.1 ++ [s], x7 zMi S.2 (o8 D.l D.to n s (pre ++ [now]))) := by unfold Q3; rw [if_neg h]
          rw [e]
          exact zJK _ _ S _ s hG.1 hsl h (IH { D with fnG := fn } s (pre ++ [now]) S.2 (by simp; omega) (by simp; omega) hs hG.2 hl hr))
      (fun S s hG hs => by
        have hsl : s.length ≤ 1000 := by
          unfold w5 at hs
          simp only [Bool.and_eq_true, decide_eq_true_eq] at hs
          omega
        unfold Q3
        split
        · exact hG
        · refine ⟨fun x hx => ?_, zEN (by simp; omega) hG.2⟩
          rcases List.mem_append.1 hx with hx | hx
          · exact hG.1 x hx
          · rw [List.mem_singleton.1 hx]; exact hsl)
      now D.l hnl hl hr ([], B) ⟨fun x hx => (by cases hx), hB⟩
  have e := zFf D.l D.to n now pre B
  obtain ⟨S', hS'⟩ : ∃ S', (o6 D.l now).foldl (Q3 D.l D.to n (pre ++ [now])) ([], B) = S' := ⟨_, rfl⟩
  rw [hS'] at e
  simp only [hS'] at s1
  rw [← e]
  clear e hS' IH hn hnl hr hB
  refine q9 func147 rfl (fun E hE => ?_); simp only [go_sem, ntmps147]
  repeat' (first | (refine Qr rfl ?_; try intro _ hK; try simp only [go_sem, *]) | (refine Qi rfl rfl rfl rfl ?_ ?_ <;> (intro hb; (try intro _ hK); have hc := hb; try simp only [go_sem] at hc; simp only [go_sem, *])) | refine Qh rfl ?_ | (refine j8 (sc) ?_; simp only [go_sem, *]) | ((with_reducible apply And.intro); focus omega) | (refine q7 hK ?_; clear hK; simp only [go_sem, *]) | simp only [q6, z8, go_sem, *])
  refine C5 rfl ⟨false, by simp only [go_sem, *], fun e => (by cases e), fun _ => ?_⟩
  repeat' (first | (refine Qr rfl ?_; try intro _ hK; try simp only [go_sem, *]) | (refine Qi rfl rfl rfl rfl ?_ ?_ <;> (intro hb; (try intro _ hK); have hc := hb; try simp only [go_sem] at hc; simp only [go_sem, *])) | refine Qh rfl ?_ | (refine Qc rfl rfl ?_ ?_ <;> (intro hb; have hc := hb; try simp only [go_sem] at hc)) | refine q8 rfl ?_ | ((with_reducible apply And.intro); focus omega) | (refine q7 hK ?_; clear hK; simp only [go_sem, *]) | simp only [q6, z8, go_sem, *])
  refine j8 su ?_ (hu := by (intro j hj; simp only [List.length_cons, List.length_nil] at hj; (obtain rfl | rfl : j = 0 ∨ j = 1 := by omega) <;> simp [go_sem]))
  simp only [go_sem, *]
  repeat' (first | (refine Qr rfl ?_; try intro _ hK; try simp only [go_sem, *]) | (refine Qi rfl rfl rfl rfl ?_ ?_ <;> (intro hb; (try intro _ hK); have hc := hb; try simp only [go_sem] at hc; simp only [go_sem, *])) | refine Qh rfl ?_ | (refine Qc rfl rfl ?_ ?_ <;> (intro hb; have hc := hb; try simp only [go_sem] at hc)) | refine q8 rfl ?_ | ((with_reducible apply And.intro); focus omega) | (refine q7 hK ?_; clear hK; simp only [go_sem, *]) | simp only [q6, z8, go_sem, *])
  refine R8 (N := 45) (env := [(33, .fn 170 [.ptr 13 0, .ptr 14 0]), (11, .ptr 11 0), (10, .ptr 10 0), (6, .ptr 4 0), (9, .ptr 9 0)]) (As := f5 0 D B ++ [.box [bV false], .box [y8 (pre ++ [now])], .box [.mp 12], .mapo [] [], .box [w6 D.l], .box [sV now]]) [some 0, some 1, some 2, some 3, some 4, some 5, some 6, some 7, some 8, some 9, some 13, some 15, some 14, some 16, some 17] [12] (by (simp only [Weak, go_sem, List.map_append, List.map_set, *] <;> (try simp (disch := omega) only [r7]) <;> (try simp) <;> (try omega))) ?_
  refine C6 (f := 170) (caps := [.ptr 13 0, .ptr 14 0]) rfl (by simp only [go_sem]) (by kernel_rfl) (nx := 15) (by simp only [go_sem]) (fun fn => ⟨16, ?_⟩)
  refine p6 [15, 0, 1, 2, 3, 4, 5, 6, 7, 8, 10, 11, 12, 9, 13, 14] [] (s1 fn) (by simp) (by simp only [go_sem]) ?_ (by simp) (.inl rfl) (by simp [go_sem]) (by simp [go_sem]) ?_
  · simp only [go_sem, *]
    rfl
  · simp only [go_sem, *]
    refine ⟨N4 fn, [(11, .ptr 11 0), (10, .ptr 10 0), (6, .ptr 4 0), (9, .ptr 9 0)], none, by simp only [go_sem], ?_⟩
    simp only [go_sem]
    repeat' (first | (refine Qr rfl ?_; try intro _ hK; try simp only [go_sem, *]) | (refine Qi rfl rfl rfl rfl ?_ ?_ <;> (intro hb; (try intro _ hK); have hc := hb; try simp only [go_sem] at hc; simp only [go_sem, *])) | refine Qh rfl ?_ | (refine Qc rfl rfl ?_ ?_ <;> (intro hb; have hc := hb; try simp only [go_sem] at hc)) | refine q8 rfl ?_ | ((with_reducible apply And.intro); focus omega) | (refine q7 hK ?_; clear hK; simp only [go_sem, *]) | simp only [q6, z8, go_sem, *])
    refine ⟨[bV true], [some 0, some 1, some 2, some 3, some 4, some 5, some 6, some 7, some 8], [], ⟨by simp only [P3, go_sem], trivial⟩, ?_⟩
    simp only [go_sem, *]
end Go.Abs

namespace Go.Abs
open Go Go.Proofs Tryz
attribute [local irreducible] y6 Hold x5
theorem zE7 {α : Type} (cmp : α → α → Int) (B : Option α) : x7 cmp B [] = B := by cases B <;> rfl
theorem zDY : ∀ (n : Nat) (D : ChainD) (now : Str) (pre : List Str) (B : Option (List Str)), (pre.length : Int) + n = D.many → pre.length + n ≤ 100 → w5 now 1 12 = true → V3 B → D.l.length ≤ 1000 → (∀ r, r ∈ D.l → r.src.length ≤ 1000 ∧ r.dst.length ≤ 1000) →
  zMf prog 147 (N3 now pre) (f5 0 D B) (bV true) (f5 0 D (x7 zMi B (o8 D.l D.to n now pre)))
 | 0, D, now, pre, B, hm, hp, hn, hB, hl, hr => by
  rw [o8]
  by_cases q : now = D.to
  ·rw [if_pos q]; exact zIG D now pre B (by simpa using hm) (by omega) q hB
  ·rw [if_neg q, zE7]; exact zIF D now pre B (by simpa using hm) (by omega) q
 | n + 1, D, now, pre, B, hm, hp, hn, hB, hl, hr => zIH D n (zDY n) now pre B hm hp hn hB hl hr
theorem zIA (D : ChainD) (k : Str) (n : Nat) (B : Option (List Str)) (hm : (n : Int) = D.many) (hp : n ≤ 100) (hk1 : w5 k 1 12 = true) (hB : V3 B) (hl : D.l.length ≤ 1000) (hr : ∀ r, r ∈ D.l → r.src.length ≤ 1000 ∧ r.dst.length ≤ 1000) :
  zMf prog 146 [.yld 0, .ptr 4 0, .ptr 5 0, .ptr 6 0, .ptr 7 0] [.loopo (f6 D.fnF) [(3, .ptr 1 0), (6, .ptr 2 0), (7, .ptr 3 0)] (some none), .box [Z8], .box [o4 B], .box [bV B.isSome], .box [iV D.many], .box [sV D.to], .box [w6 D.l], .box [sV k]] (.tup [])
   [.loopo (f6 D.fnF) [(3, .ptr 1 0), (6, .ptr 2 0), (7, .ptr 3 0)] (some none), .box [Z8], .box [o4 (x7 zMi B (o8 D.l D.to n k []))], .box [bV (x7 zMi B (o8 D.l D.to n k [])).isSome], .box [iV D.many], .box [sV D.to], .box [w6 D.l], .box [sV k]] := by
 have hca : p7 prog 147 = true := by kernel_rfl
 have sg := zDY n D k [] B (by simpa using hm) (by simpa using hp) hk1 hB hl hr
 generalize x7 zMi B (o8 D.l D.to n k []) = B' at *
 clear hr
 refine q9 func146 rfl (fun E hE => ?_); simp only [go_sem, ntmps146]
 repeat' (first | (refine Qr rfl ?_; try intro _ hK; try simp only [go_sem, *]) | refine Qh rfl ?_ | (refine Qc rfl rfl ?_ ?_ <;> (intro hb; have hc := hb; try simp only [go_sem] at hc)) | refine q8 rfl ?_ | ((with_reducible apply And.intro); focus omega) | (refine q7 hK ?_; clear hK; simp only [go_sem, *]) | simp only [q6, z8, go_sem, *])
 refine t8 [4, 5, 8, 6, 9, 0, 1, 2, 3] sg ?_
 simp only [go_sem, *]
 repeat' (first | (refine Qr rfl ?_; try intro _ hK; try simp only [go_sem, *]) | refine Qh rfl ?_ | (refine Qc rfl rfl ?_ ?_ <;> (intro hb; have hc := hb; try simp only [go_sem] at hc)) | refine q8 rfl ?_ | ((with_reducible apply And.intro); focus omega) | (refine q7 hK ?_; clear hK; simp only [go_sem, *]) | simp only [q6, z8, go_sem, *])
 refine ⟨[], [some 0, some 1, some 2, some 3, some 4, some 5, some 6, some 7], [], trivial, ?_⟩
 simp only [go_sem, f9, *]
theorem zH9 (k : Str) (l : List Rule) (to : Str) (many : Int) : zMf prog 125 [sV k, w6 l, sV to, iV many] [] (.fn 146 [.ptr 0 0, .ptr 1 0, .ptr 2 0, .ptr 3 0]) [.box [iV many], .box [sV to], .box [w6 l], .box [sV k]] := by
 refine q9 func125 rfl (fun E hE => ?_); simp only [go_sem, ntmps125]
 repeat' (first | (refine Qr rfl ?_; try intro _ hK; try simp only [go_sem, *]) | refine Qh rfl ?_ | (refine Qc rfl rfl ?_ ?_ <;> (intro hb; have hc := hb; try simp only [go_sem] at hc)) | refine q8 rfl ?_ | ((with_reducible apply And.intro); focus omega) | (refine q7 hK ?_; clear hK; simp only [go_sem, *]) | simp only [q6, z8, go_sem, *])
 refine ⟨[_], [some 3, some 2, some 1, some 0], [], ⟨rfl, trivial⟩, ?_⟩
 simp only [go_sem, *]
theorem zID (k : Str) (l : List Rule) (to : Str) (n : Nat) (hp : n ≤ 100) (hk1 : w5 k 1 12 = true) (hl : l.length ≤ 1000) (hr : ∀ r, r ∈ l → r.src.length ≤ 1000 ∧ r.dst.length ≤ 1000) :
  zMf prog 124 [.fn 146 [.ptr 0 0, .ptr 1 0, .ptr 2 0, .ptr 3 0], Z8] [.box [iV n], .box [sV to], .box [w6 l], .box [sV k]] (.tup [o4 (b7 l n k to), bV (b7 l n k to).isSome]) [.box [iV n], .box [sV to], .box [w6 l], .box [sV k]] := by
 have s1 := fun fn => zIA ⟨n, to, l, 0, fn⟩ k n none rfl hp hk1 (fun b h => by cases h) hl hr
 have e : b7 l n k to = x7 zMi none (o8 l to n k []) := rfl
 rw [e]
 simp only at s1
 generalize x7 zMi none (o8 l to n k []) = B at *
 clear hr e
 refine q9 func124 rfl (fun E hE => ?_); simp only [go_sem, ntmps124]
 repeat' (first | (refine Qr rfl ?_; try intro _ hK; try simp only [go_sem, *]) | refine Qh rfl ?_ | refine Qd rfl (by kernel_rfl) ?_ | (refine Qc rfl rfl ?_ ?_ <;> (intro hb; have hc := hb; try simp only [go_sem] at hc)) | refine q8 rfl ?_ | (refine Qb ?_ ?_; focus kernel_rfl) | ((with_reducible apply And.intro); focus omega) | (refine q7 hK ?_; clear hK; simp only [go_sem, *]) | simp only [q6, z8, go_sem, *])
 refine R8 (N := 23) (env := [(9, .fn 146 [.ptr 0 0, .ptr 1 0, .ptr 2 0, .ptr 3 0]), (3, .ptr 4 0), (6, .ptr 5 0), (7, .ptr 6 0)]) (As := [.box [iV n], .box [sV to], .box [w6 l], .box [sV k], .box [Z8], .box [o4 none], .box [bV false]]) [some 0, some 1, some 2, some 3, some 4, some 5, some 6] [] (by (simp only [Weak, go_sem, List.map_append, List.map_set, *] <;> (try simp (disch := omega) only [r7]) <;> (try simp) <;> (try omega))) ?_
 refine C6 (f := 146) (caps := [.ptr 0 0, .ptr 1 0, .ptr 2 0, .ptr 3 0]) rfl (by simp only [go_sem]) (by kernel_rfl) (nx := 7) (by simp only [go_sem]) (fun fn => ⟨8, ?_⟩)
 refine p6 [7, 4, 5, 6, 0, 1, 2, 3] [] (s1 fn) (by simp) (by simp only [go_sem]) ?_ (by simp) (.inl rfl) (by simp [go_sem]) (by simp [go_sem]) ?_
 ·simp only [go_sem, *]
  first | rfl | exact ⟨rfl, rfl⟩
 ·simp only [go_sem, *]
  refine ⟨f6 fn, [(3, .ptr 4 0), (6, .ptr 5 0), (7, .ptr 6 0)], none, by simp only [go_sem], ?_⟩
  simp only [go_sem]
  repeat' (first | (refine Qr rfl ?_; try intro _ hK; try simp only [go_sem, *]) | refine Qh rfl ?_ | refine Qd rfl (by kernel_rfl) ?_ | (refine Qc rfl rfl ?_ ?_ <;> (intro hb; have hc := hb; try simp only [go_sem] at hc)) | refine q8 rfl ?_ | (refine Qb ?_ ?_; focus kernel_rfl) | ((with_reducible apply And.intro); focus omega) | (refine q7 hK ?_; clear hK; simp only [go_sem, *]) | simp only [q6, z8, go_sem, *])
  refine ⟨[_, _], [some 0, some 1, some 2, some 3], [], ⟨rfl, rfl, trivial⟩, ?_⟩
  simp only [go_sem, *]
end Go.Abs

namespace Go.Abs
open Go
theorem zGr {c : UInt8} (hc : u9 c = true) : y9 c = false := by
 unfold u9 at hc
 unfold y9
 rw [Bool.and_eq_true, Bool.and_eq_true, decide_eq_true_eq, decide_eq_true_eq] at hc
 simp; omega
theorem ValidN.mem0 {s : Str} (v : ValidN s) : s.getD 0 0 ∈ s := by
 cases s with
 | nil => have := v.ne; simp at this
 | cons c r => simp
theorem ValidN.latin {s : Str} (v : ValidN s) (h : y9 (s.getD 0 0) = true) : s.all y9 = true := by
 have hf := v.form
 unfold l7 at hf
 rw [Bool.or_eq_true] at hf
 rcases hf with hf | hf
 ·exact hf
 ·have := zGr (List.all_eq_true.1 hf _ v.mem0)
  rw [h] at this; cases this
theorem ValidN.other {s : Str} (v : ValidN s) (h : y9 (s.getD 0 0) = false) : s.all u9 = true := by
 have hf := v.form
 unfold l7 at hf
 rw [Bool.or_eq_true] at hf
 rcases hf with hf | hf
 ·have := List.all_eq_true.1 hf _ v.mem0
  rw [h] at this; cases this
 ·exact hf
theorem ValidN.check {s : Str} (v : ValidN s) : x6 s = 0 := checkN_zero.2 v
end Go.Abs

namespace Go.Abs
open Go Go.Proofs Tryz
attribute [local irreducible] y6 Hold x5
theorem zDH {r : List Rule} (h : o5 r = 0) : r.length ≤ 4 ∧ ∀ x, x ∈ r → x.src.length ≤ 2 ∧ x.dst.length ≤ 2 := by
 unfold o5 at h
 by_cases h4 : 4 < r.length
 ·rw [if_pos h4] at h; cases h
 ·rw [if_neg h4] at h
  by_cases ha : r.all Rule.ok = true
  ·refine ⟨by omega, fun x hx => ?_⟩
   have := List.all_eq_true.1 ha x hx
   unfold Rule.ok w5 at this
   simp only [Bool.and_eq_true, decide_eq_true_eq] at this
   exact ⟨this.1.2.1, this.2.1.2.1⟩
  ·rw [if_neg ha] at h; cases h
theorem zGz {a b : Str} (h : u7 [a, b] = 0) : ValidN a ∧ ValidN b := by
 rw [D2] at h
 by_cases q : x6 a = 0
 ·rw [if_pos q] at h; exact ⟨checkN_zero.1 q, checkN_zero.1 h⟩
 ·rw [if_neg q] at h; exact absurd h q
theorem zEe {α : Type} {f : Nat → Option α} {i : Nat} (h : i < 3) : r8 f (List.range' i (3 - i)) = match f i with
  | some b => some b
  | none => r8 f (List.range' (i + 1) (3 - (i + 1))) := by
 obtain rfl | rfl | rfl : i = 0 ∨ i = 1 ∨ i = 2 := by omega
 all_goals rfl
def S8 (k : Str) (l : List Rule) (to : Str) : Option (List Str) := r8 (fun n => b7 l n k to) [0, 1, 2]
theorem zH8 (k : Str) (l : List Rule) (to : Str) (hk1 : w5 k 1 12 = true) (hl : l.length ≤ 1000) (hr : ∀ r, r ∈ l → r.src.length ≤ 1000 ∧ r.dst.length ≤ 1000) :
  zMf prog 88 [sV k, w6 l, sV to] [] (.tup [o4 (S8 k l to), bV (S8 k l to).isSome]) [] := by
 have hca : p7 prog 126 = true := by kernel_rfl
 obtain ⟨T, hT⟩ : ∃ T, S8 k l to = T := ⟨_, rfl⟩
 rw [hT]
 have h0 : r8 (fun n => b7 l n k to) (List.range' 0 (3 - 0)) = T := hT
 clear hT
 have s1 := zH9 k l to
 have s2 := fun n hn => zID k l to n hn hk1 hl hr
 clear hk1 hl hr
 refine q9 func88 rfl (fun E hE => ?_); simp only [go_sem, ntmps88]
 repeat' (first | (refine Qr rfl ?_; try intro _ hK; try simp only [go_sem, *]) | refine Qh rfl ?_ | (refine Qc rfl rfl ?_ ?_ <;> (intro hb; have hc := hb; try simp only [go_sem] at hc)) | refine q8 rfl ?_ | ((with_reducible apply And.intro); focus omega) | (refine q7 hK ?_; clear hK; simp only [go_sem, *]) | simp only [q6, z8, go_sem, *])
 refine o9 rfl (3) (fun i => r8 (fun n => b7 l n k to) (List.range' i (3 - i)) = T) 26 (fun i => [(11, iV i), (0, sV k), (1, w6 l), (2, sV to)]) (fun i => []) [] [] (by exact h0) ?_; intro i hi hP
 clear h0
 by_cases hi2 : i < 3
 ·rw [zEe hi2] at hP
  have s1 := s1 (i : Int)
  have s2 := s2 i (by omega)
  have hi3 : (i : Int) < 3 := by omega
  have hw : IntKind.i64.wrap ((i : Int) + 1) = ((i + 1 : Nat) : Int) := r7 (by omega)
  cases hc : b7 l i k to with
  | some c =>
   rw [hc] at hP s2
   have hP : some c = T := hP
   subst hP
   clear hc
   repeat' (first | (refine Qr rfl ?_; try intro _ hK; try simp only [go_sem, *]) | refine Qh rfl ?_ | (refine Qc rfl rfl ?_ ?_ <;> (intro hb; have hc := hb; try simp only [go_sem] at hc)) | refine q8 rfl ?_ | ((with_reducible apply And.intro); focus omega) | (refine q7 hK ?_; clear hK; simp only [go_sem, *]) | simp only [q6, z8, go_sem, *])
   refine j8 s1 ?_ (hu := by (intro j hj; simp only [List.length_cons, List.length_nil] at hj; (obtain rfl | rfl | rfl | rfl : j = 0 ∨ j = 1 ∨ j = 2 ∨ j = 3 := by omega) <;> simp [go_sem]))
   simp only [go_sem, *]
   repeat' (first | (refine Qr rfl ?_; try intro _ hK; try simp only [go_sem, *]) | refine Qh rfl ?_ | (refine Qc rfl rfl ?_ ?_ <;> (intro hb; have hc := hb; try simp only [go_sem] at hc)) | refine q8 rfl ?_ | ((with_reducible apply And.intro); focus omega) | (refine q7 hK ?_; clear hK; simp only [go_sem, *]) | simp only [q6, z8, go_sem, *])
   refine t8 [0, 1, 2, 3] s2 ?_
   simp only [go_sem, *]
   repeat' (first | (refine Qr rfl ?_; try intro _ hK; try simp only [go_sem, *]) | refine Qh rfl ?_ | (refine Qc rfl rfl ?_ ?_ <;> (intro hb; have hc := hb; try simp only [go_sem] at hc)) | refine q8 rfl ?_ | ((with_reducible apply And.intro); focus omega) | (refine q7 hK ?_; clear hK; simp only [go_sem, *]) | simp only [q6, z8, go_sem, *])
   all_goals try contradiction
   (refine ⟨[_, _], [], [], ⟨rfl, rfl, trivial⟩, ?_⟩; simp only [go_sem, *])
  | none =>
   rw [hc] at hP s2
   have hP : r8 (fun n => b7 l n k to) (List.range' (i + 1) (3 - (i + 1))) = T := hP
   clear hc
   repeat' (first | (refine Qr rfl ?_; try intro _ hK; try simp only [go_sem, *]) | refine Qh rfl ?_ | (refine Qc rfl rfl ?_ ?_ <;> (intro hb; have hc := hb; try simp only [go_sem] at hc)) | refine q8 rfl ?_ | ((with_reducible apply And.intro); focus omega) | (refine q7 hK ?_; clear hK; simp only [go_sem, *]) | simp only [q6, z8, go_sem, *])
   refine j8 s1 ?_ (hu := by (intro j hj; simp only [List.length_cons, List.length_nil] at hj; (obtain rfl | rfl | rfl | rfl : j = 0 ∨ j = 1 ∨ j = 2 ∨ j = 3 := by omega) <;> simp [go_sem]))
   simp only [go_sem, *]
   repeat' (first | (refine Qr rfl ?_; try intro _ hK; try simp only [go_sem, *]) | refine Qh rfl ?_ | (refine Qc rfl rfl ?_ ?_ <;> (intro hb; have hc := hb; try simp only [go_sem] at hc)) | refine q8 rfl ?_ | ((with_reducible apply And.intro); focus omega) | (refine q7 hK ?_; clear hK; simp only [go_sem, *]) | simp only [q6, z8, go_sem, *])
   refine t8 [0, 1, 2, 3] s2 ?_
   simp only [go_sem, *]
   repeat' (first | (refine Qr rfl ?_; try intro _ hK; try simp only [go_sem, *]) | refine Qh rfl ?_ | (refine Qc rfl rfl ?_ ?_ <;> (intro hb; have hc := hb; try simp only [go_sem] at hc)) | refine q8 rfl ?_ | ((with_reducible apply And.intro); focus omega) | (refine q7 hK ?_; clear hK; simp only [go_sem, *]) | simp only [q6, z8, go_sem, *])
   all_goals try contradiction
   exact f8 (i' := i + 1) [] [] (by exact hP)
 ·have e : 3 - i = 0 := by omega
  rw [e] at hP
  have hP : none = T := hP
  subst hP
  have hi3 : ¬ (i : Int) < 3 := by omega
  clear s1 s2
  repeat' (first | (refine Qr rfl ?_; try intro _ hK; try simp only [go_sem, *]) | refine Qh rfl ?_ | (refine Qc rfl rfl ?_ ?_ <;> (intro hb; have hc := hb; try simp only [go_sem] at hc)) | refine q8 rfl ?_ | ((with_reducible apply And.intro); focus omega) | (refine q7 hK ?_; clear hK; simp only [go_sem, *]) | simp only [q6, z8, go_sem, *])
  all_goals try contradiction
  (refine ⟨[_, _], [], [], ⟨rfl, rfl, trivial⟩, ?_⟩; simp only [go_sem, *])
  all_goals rfl
def X8 (r : List Rule) (a b : Str) : Option (List Str) := if c7 r a b = 0 then S9 r a b else none
theorem zAn {r : List Rule} {a b : Str} (q : o5 r = 0) : c7 r a b = u7 [a, b] := by
 unfold c7; rw [if_pos q, D2]
theorem zEa {r : List Rule} {a b : Str} (h : c7 r a b = 0) : X8 r a b = S8 (zMh a) r (zMh b) := if_pos h
theorem zBb {r : List Rule} {a b : Str} (h : c7 r a b = 0) : o7 r a b = if (S8 (zMh a) r (zMh b)).isSome = true then 0 else 11 := if_pos h
theorem zEb {r : List Rule} {a b : Str} (h : o7 r a b = 0) : ∃ c, X8 r a b = some c ∧ F6 r a b = c ∧ 1 ≤ c.length ∧ c.length ≤ 3 ∧ X7 r a b = (c.length : Int) - 1 := by
 by_cases hp : c7 r a b = 0
 ·have h2 := h
  rw [zBb hp] at h2
  cases hc : S9 r a b with
  | none =>
   have : S8 (zMh a) r (zMh b) = none := hc
   rw [this] at h2; cases h2
  | some c =>
   have hv : F6 r a b = c := by unfold F6; rw [if_pos hp, hc]; rfl
   obtain ⟨n, h1, h3, _⟩ := zEc hc
   refine ⟨c, by rw [X8, if_pos hp, hc], hv, by omega, by omega, ?_⟩
   unfold X7; rw [if_pos h, hv]
 ·unfold o7 at h; rw [if_neg hp] at h; exact absurd h hp
theorem zDQ (r : List Rule) (a b : Str) (hl : r.length ≤ 4294967296) (hr : ∀ x, x ∈ r → x.src.length ≤ 4294967296 ∧ x.dst.length ≤ 4294967296) :
  zMf prog 38 [w6 r, sV a, sV b] [] (.tup [o4 (X8 r a b), iV (o7 r a b)]) [] := by
 have s1 := zA6 r hl hr
 have sc : zMf prog 87 [.list [sV a, sV b]] [] (iV (u7 [a, b])) [] := zA1 [a, b] (by simp)
 by_cases q1 : o5 r = 0
 ·rw [q1] at s1
  by_cases q2 : u7 [a, b] = 0
  ·obtain ⟨va, vb⟩ := zGz q2
   have hp : c7 r a b = 0 := by rw [zAn q1, q2]
   obtain ⟨h4, h5⟩ := zDH q1
   have s2 := P6 a va.form (by have := va.len; omega)
   have s3 := P6 b vb.form (by have := vb.len; omega)
   have s4 := zH8 (zMh a) r (zMh b) (zAW va) (by omega) (fun x hx => by have := h5 x hx; omega)
   rw [zEa hp, zBb hp]
   rw [q2] at sc
   generalize S8 (zMh a) r (zMh b) = o at *
   generalize zMh a = ka at *
   generalize zMh b = kb at *
   clear q1 q2 va vb hp h4 h5 hl hr
   cases o with
   | none =>
    simp only [Option.isSome_none, Bool.false_eq_true, if_false] at s4 ⊢
    refine q9 func38 rfl (fun E hE => ?_); simp only [go_sem, ntmps38]
    repeat' (first | (refine Qr rfl ?_; try intro _ hK; try simp only [go_sem, *]) | refine Qh rfl ?_ | (refine Qc rfl rfl ?_ ?_ <;> (intro hb; have hc := hb; try simp only [go_sem] at hc)) | refine q8 rfl ?_ | (refine y5 (s1) ?_; simp only [go_sem, *]) | ((with_reducible apply And.intro); focus omega) | (refine q7 hK ?_; clear hK; simp only [go_sem, *]) | simp only [q6, z8, go_sem, *])
    all_goals try contradiction
    (refine V9 [0] (sc) (by simp only [go_sem, *]) (.raw _) ?_; simp only [go_sem, *])
    repeat' (first | (refine Qr rfl ?_; try intro _ hK; try simp only [go_sem, *]) | refine Qh rfl ?_ | (refine Qc rfl rfl ?_ ?_ <;> (intro hb; have hc := hb; try simp only [go_sem] at hc)) | refine q8 rfl ?_ | (refine p9 (s2) ?_ ?_; (focus (simp only [go_sem, *]; done)); simp only [go_sem, *]) | (refine p9 (s3) ?_ ?_; (focus (simp only [go_sem, *]; done)); simp only [go_sem, *]) | (refine y5 (s4) ?_; simp only [go_sem, *]) | ((with_reducible apply And.intro); focus omega) | (refine q7 hK ?_; clear hK; simp only [go_sem, *]) | simp only [q6, z8, go_sem, *])
    all_goals try contradiction
    (refine ⟨[_, _], [], [], ⟨rfl, rfl, trivial⟩, ?_⟩; simp only [go_sem, *])
   | some c =>
    simp only [Option.isSome_some, if_true] at s4 ⊢
    refine q9 func38 rfl (fun E hE => ?_); simp only [go_sem, ntmps38]
    repeat' (first | (refine Qr rfl ?_; try intro _ hK; try simp only [go_sem, *]) | refine Qh rfl ?_ | (refine Qc rfl rfl ?_ ?_ <;> (intro hb; have hc := hb; try simp only [go_sem] at hc)) | refine q8 rfl ?_ | (refine y5 (s1) ?_; simp only [go_sem, *]) | ((with_reducible apply And.intro); focus omega) | (refine q7 hK ?_; clear hK; simp only [go_sem, *]) | simp only [q6, z8, go_sem, *])
    all_goals try contradiction
    (refine V9 [0] (sc) (by simp only [go_sem, *]) (.raw _) ?_; simp only [go_sem, *])
    repeat' (first | (refine Qr rfl ?_; try intro _ hK; try simp only [go_sem, *]) | refine Qh rfl ?_ | (refine Qc rfl rfl ?_ ?_ <;> (intro hb; have hc := hb; try simp only [go_sem] at hc)) | refine q8 rfl ?_ | (refine p9 (s2) ?_ ?_; (focus (simp only [go_sem, *]; done)); simp only [go_sem, *]) | (refine p9 (s3) ?_ ?_; (focus (simp only [go_sem, *]; done)); simp only [go_sem, *]) | (refine y5 (s4) ?_; simp only [go_sem, *]) | ((with_reducible apply And.intro); focus omega) | (refine q7 hK ?_; clear hK; simp only [go_sem, *]) | simp only [q6, z8, go_sem, *])
    all_goals try contradiction
    (refine ⟨[_, _], [], [], ⟨rfl, rfl, trivial⟩, ?_⟩; simp only [go_sem, *])
  ·have hp : ¬ c7 r a b = 0 := by rw [zAn q1]; exact q2
   have e1 : X8 r a b = none := if_neg hp
   have e2 : o7 r a b = u7 [a, b] := by unfold o7; rw [if_neg hp, zAn q1]
   rw [e1, e2]
   clear e1 e2 hp q1 hl hr
   generalize u7 [a, b] = e at *
   refine q9 func38 rfl (fun E hE => ?_); simp only [go_sem, ntmps38]
   repeat' (first | (refine Qr rfl ?_; try intro _ hK; try simp only [go_sem, *]) | refine Qh rfl ?_ | (refine Qc rfl rfl ?_ ?_ <;> (intro hb; have hc := hb; try simp only [go_sem] at hc)) | refine q8 rfl ?_ | (refine y5 (s1) ?_; simp only [go_sem, *]) | ((with_reducible apply And.intro); focus omega) | (refine q7 hK ?_; clear hK; simp only [go_sem, *]) | simp only [q6, z8, go_sem, *])
   all_goals try contradiction
   (refine V9 [0] (sc) (by simp only [go_sem, *]) (.raw _) ?_; simp only [go_sem, *])
   repeat' (first | (refine Qr rfl ?_; try intro _ hK; try simp only [go_sem, *]) | refine Qh rfl ?_ | (refine Qc rfl rfl ?_ ?_ <;> (intro hb; have hc := hb; try simp only [go_sem] at hc)) | refine q8 rfl ?_ | ((with_reducible apply And.intro); focus omega) | (refine q7 hK ?_; clear hK; simp only [go_sem, *]) | simp only [q6, z8, go_sem, *])
   all_goals try contradiction
   (refine ⟨[_, _], [], [], ⟨rfl, rfl, trivial⟩, ?_⟩; simp only [go_sem, *])
 ·have hp : c7 r a b = o5 r := by unfold c7; rw [if_neg q1]
  have e1 : X8 r a b = none := if_neg (by rw [hp]; exact q1)
  have e2 : o7 r a b = o5 r := by unfold o7; rw [hp, if_neg q1]
  rw [e1, e2]
  clear e1 e2 hp hl hr sc
  generalize o5 r = e at *
  refine q9 func38 rfl (fun E hE => ?_); simp only [go_sem, ntmps38]
  repeat' (first | (refine Qr rfl ?_; try intro _ hK; try simp only [go_sem, *]) | refine Qh rfl ?_ | (refine Qc rfl rfl ?_ ?_ <;> (intro hb; have hc := hb; try simp only [go_sem] at hc)) | refine q8 rfl ?_ | (refine y5 (s1) ?_; simp only [go_sem, *]) | ((with_reducible apply And.intro); focus omega) | (refine q7 hK ?_; clear hK; simp only [go_sem, *]) | simp only [q6, z8, go_sem, *])
  all_goals try contradiction
  (refine ⟨[_, _], [], [], ⟨rfl, rfl, trivial⟩, ?_⟩; simp only [go_sem, *])
theorem zDV (r : List Rule) (a b : Str) (hl : r.length ≤ 4294967296) (hr : ∀ x, x ∈ r → x.src.length ≤ 4294967296 ∧ x.dst.length ≤ 4294967296) :
  zMf prog 49 [w6 r, sV a, sV b] [] (.tup [iV (X7 r a b), iV (o7 r a b)]) [] := by
 have sC := zDQ r a b hl hr
 clear hl hr
 by_cases q : o7 r a b = 0
 ·obtain ⟨c, h1, _, h2, h3, h4⟩ := zEb q
  rw [h4, q]
  rw [h1, q] at sC
  have hw : IntKind.i64.wrap ((c.length : Int) - 1) = (c.length : Int) - 1 := wrap_i64 (by omega) (by omega)
  clear q h1 h4
  refine q9 func49 rfl (fun E hE => ?_); simp only [go_sem, ntmps49]
  repeat' (first | (refine Qr rfl ?_; try intro _ hK; try simp only [go_sem, *]) | refine Qh rfl ?_ | (refine Qc rfl rfl ?_ ?_ <;> (intro hb; have hc := hb; try simp only [go_sem] at hc)) | refine q8 rfl ?_ | (refine y5 (sC) ?_; simp only [go_sem, *]) | ((with_reducible apply And.intro); focus omega) | (refine q7 hK ?_; clear hK; simp only [go_sem, *]) | simp only [q6, z8, go_sem, *])
  all_goals try contradiction
  (refine ⟨[_, _], [], [], ⟨rfl, rfl, trivial⟩, ?_⟩; simp only [go_sem, *])
 ·have e : X7 r a b = 0 := by unfold X7; rw [if_neg q]
  rw [e]
  clear e
  generalize X8 r a b = o at *
  generalize o7 r a b = e at *
  refine q9 func49 rfl (fun E hE => ?_); simp only [go_sem, ntmps49]
  repeat' (first | (refine Qr rfl ?_; try intro _ hK; try simp only [go_sem, *]) | refine Qh rfl ?_ | (refine Qc rfl rfl ?_ ?_ <;> (intro hb; have hc := hb; try simp only [go_sem] at hc)) | refine q8 rfl ?_ | (refine y5 (sC) ?_; simp only [go_sem, *]) | ((with_reducible apply And.intro); focus omega) | (refine q7 hK ?_; clear hK; simp only [go_sem, *]) | simp only [q6, z8, go_sem, *])
  all_goals try contradiction
  (refine ⟨[_, _], [], [], ⟨rfl, rfl, trivial⟩, ?_⟩; simp only [go_sem, *])
theorem zMQ (r : List Rule) (a b : Str) (hl : r.length ≤ 4294967296) (hr : ∀ x, x ∈ r → x.src.length ≤ 4294967296 ∧ x.dst.length ≤ 4294967296) :
  zMf prog 39 [w6 r, sV a, sV b] [] (.tup [iV (zDv r a b), iV (zDu r a b)]) [] := by
 have sU := zDV r a b hl hr
 clear hl hr
 unfold zDv zDu
 generalize X7 r a b = n at *
 generalize o7 r a b = e at *
 refine q9 func39 rfl (fun E hE => ?_); simp only [go_sem, ntmps39]
 repeat' (first | (refine Qr rfl ?_; try intro _ hK; try simp only [go_sem, *]) | refine Qh rfl ?_ | (refine Qc rfl rfl ?_ ?_ <;> (intro hb; have hc := hb; try simp only [go_sem] at hc)) | refine q8 rfl ?_ | (refine y5 (sU) ?_; simp only [go_sem, *]) | ((with_reducible apply And.intro); focus omega) | (refine q7 hK ?_; clear hK; simp only [go_sem, *]) | simp only [q6, z8, go_sem, *])
 all_goals (refine ⟨[_, _], [], [], ⟨rfl, rfl, trivial⟩, ?_⟩; simp only [go_sem, *])
 all_goals simp_all
end Go.Abs

namespace Go.Abs
open Go Go.Proofs Tryz
attribute [local irreducible] y6 Hold x5
def c0 (r : List Rule) (s : Str) (l : List Str) (m : Nat) : List Int := (List.range' m (3 - m)).flatMap fun (n : Nat) => c5 r s l n 0
theorem zGk (r : List Rule) (s : Str) (l : List Str) : c0 r s l 0 = M1 r s l := by
 have e : List.range' 0 (3 - 0) = [0, 1, 2] := rfl
 unfold c0 M1
 rw [e]
 simp
theorem zGj {r : List Rule} {s : Str} {l : List Str} {m : Nat} (h : m < 3) : c0 r s l m = c5 r s l m 0 ++ c0 r s l (m + 1) := by
 unfold c0
 rw [show 3 - m = (3 - (m + 1)) + 1 by omega, List.range'_succ, List.flatMap_cons]
theorem zGm {r : List Rule} {s : Str} {l : List Str} {n : Int} {i : Nat} (h : i < l.length) : c5 r s l n i = (if o7 r s (l.getD i default) = 0 ∧ X7 r s (l.getD i default) = n then [(i : Int)] else []) ++ c5 r s l n (i + 1) := by
 unfold c5
 rw [show l.length - i = (l.length - (i + 1)) + 1 by omega, List.range'_succ, List.flatMap_cons]
 rfl
theorem zGl {r : List Rule} {s : Str} {l : List Str} {n : Int} {i : Nat} (h : l.length ≤ i) : c5 r s l n i = [] := by
 unfold c5
 rw [show l.length - i = 0 by omega]; rfl
theorem zMN (r : List Rule) (s : Str) (l : List Str) (q : H2 r s l = 0) :
    zMf prog 47 [w6 r, sV s, y8 l] [] (.tup [.own 0 1 0 (M1 r s l).length, iV 0]) [.row 1 ((M1 r s l).map iV)] := by
  obtain ⟨q1, q2, q3⟩ : o5 r = 0 ∧ x6 s = 0 ∧ v8 l = 0 := by
    unfold H2 at q
    by_cases a : o5 r = 0
    · rw [if_pos a] at q
      by_cases b : x6 s = 0
      · rw [if_pos b] at q; exact ⟨a, b, q⟩
      · rw [if_neg b] at q; exact absurd q b
    · rw [if_neg a] at q; exact absurd q a
  obtain ⟨h4, h5⟩ := zDH q1
  have h6 := E6 q3
  have s1 := zA6 r (by omega) (fun x hx => by have := h5 x hx; omega)
  have s2 := G5 s
  have s3 := L7 l (by omega)
  have s4 := fun i => zDV r s (l.getD i default) (by omega) (fun x hx => by have := h5 x hx; omega)
  rw [q1] at s1
  rw [q2] at s2
  rw [q3] at s3
  have h0 : [] ++ c0 r s l 0 = M1 r s l := zGk r s l
  generalize M1 r s l = T at *
  clear q q1 q2 q3 h4 h5
  refine q9 func47 rfl (fun E hE => ?_); simp only [go_sem, ntmps47]
  repeat' (first | (refine Qr rfl ?_; try intro _ hK; try simp only [go_sem, *]) | (refine Qi rfl rfl rfl rfl ?_ ?_ <;> (intro hb; (try intro _ hK); have hc := hb; try simp only [go_sem] at hc; simp only [go_sem, *])) | refine Qh rfl ?_ | (refine Qc rfl rfl ?_ ?_ <;> (intro hb; have hc := hb; try simp only [go_sem] at hc)) | refine q8 rfl ?_ | ((first | refine y5 (s1) ?_ | refine y5 (s2) ?_ | refine y5 (s3) ?_); simp only [go_sem, *]) | ((with_reducible apply And.intro); focus omega) | (refine q7 hK ?_; clear hK; simp only [go_sem, *]) | simp only [q6, z8, go_sem, *])
  all_goals try contradiction
  refine a7 rfl (3) (fun m (xs : List Int) => xs ++ c0 r s l m = T ∧ xs.length ≤ 6 * m) 63 (fun m xs => [(32, iV m), (11, .own 0 1 0 xs.length), (0, w6 r), (1, sV s), (2, y8 l)]) (fun m xs => [.row 1 (xs.map iV)]) [none] [] ([]) (by exact ⟨h0, by simp⟩) ?_; intro m xs hm hP
  clear h0 s1 s2 s3
  obtain ⟨hP, hx⟩ := hP
  have hw : IntKind.i64.wrap ((m : Int) + 1) = ((m + 1 : Nat) : Int) := r7 (by omega)
  by_cases hm2 : m < 3
  · rw [zGj hm2] at hP
    have hm3 : (m : Int) < 3 := by omega
    repeat' (first | (refine Qr rfl ?_; try intro _ hK; try simp only [go_sem, *]) | (refine Qi rfl rfl rfl rfl ?_ ?_ <;> (intro hb; (try intro _ hK); have hc := hb; try simp only [go_sem] at hc; simp only [go_sem, *])) | refine Qh rfl ?_ | (refine Qc rfl rfl ?_ ?_ <;> (intro hb; have hc := hb; try simp only [go_sem] at hc)) | refine q8 rfl ?_ | ((with_reducible apply And.intro); focus omega) | (refine q7 hK ?_; clear hK; simp only [go_sem, *]) | simp only [q6, z8, go_sem, *])
    all_goals try contradiction
    refine a7 rfl (l.length) (fun i (ys : List Int) => ys ++ (c5 r s l m i ++ c0 r s l (m + 1)) = T ∧ ys.length ≤ 6 * m + i) 63 (fun i ys => [(37, iV i), (36, iV l.length), (35, y8 l), (12, iV m), (32, iV m), (11, .own 0 1 0 ys.length), (0, w6 r), (1, sV s), (2, y8 l)]) (fun i ys => [.row 1 (ys.map iV)]) [some 0] [] (xs) (by exact ⟨hP, by omega⟩) ?_; intro i ys hi hQ
    clear hP hx
    obtain ⟨hQ, hy⟩ := hQ
    by_cases hi2 : i < l.length
    · rw [zGm hi2] at hQ
      have s5 := s4 i
      generalize X7 r s (l.getD i default) = u at *
      generalize o7 r s (l.getD i default) = e at *
      have hwi : IntKind.i64.wrap ((i : Int) + 1) = ((i + 1 : Nat) : Int) := r7 (by omega)
      clear s4
      by_cases qe : e = 0
      · by_cases qu : u = (m : Int)
        · rw [if_pos ⟨qe, qu⟩] at hQ
          have hQ : (ys ++ [(i : Int)]) ++ (c5 r s l m (i + 1) ++ c0 r s l (m + 1)) = T := by rw [← hQ]; simp
          subst qe qu
          repeat' (first | (refine Qr rfl ?_; try intro _ hK; try simp only [go_sem, *]) | (refine Qi rfl rfl rfl rfl ?_ ?_ <;> (intro hb; (try intro _ hK); have hc := hb; try simp only [go_sem] at hc; simp only [go_sem, *])) | refine Qh rfl ?_ | (refine Qc rfl rfl ?_ ?_ <;> (intro hb; have hc := hb; try simp only [go_sem] at hc)) | refine q8 rfl ?_ | (refine y5 (s5) ?_; simp only [go_sem, *]) | ((with_reducible apply And.intro); focus omega) | (refine q7 hK ?_; clear hK; simp only [go_sem, *]) | simp only [q6, z8, go_sem, *])
          all_goals first | contradiction | omega | skip
          exact n0 (i' := i + 1) [some 2] [] (ys ++ [(i : Int)]) (by exact ⟨hQ, by simp; omega⟩)
        · rw [if_neg (fun h => qu h.2)] at hQ
          have hQ : ys ++ (c5 r s l m (i + 1) ++ c0 r s l (m + 1)) = T := hQ
          subst qe
          repeat' (first | (refine Qr rfl ?_; try intro _ hK; try simp only [go_sem, *]) | (refine Qi rfl rfl rfl rfl ?_ ?_ <;> (intro hb; (try intro _ hK); have hc := hb; try simp only [go_sem] at hc; simp only [go_sem, *])) | refine Qh rfl ?_ | (refine Qc rfl rfl ?_ ?_ <;> (intro hb; have hc := hb; try simp only [go_sem] at hc)) | refine q8 rfl ?_ | (refine y5 (s5) ?_; simp only [go_sem, *]) | ((with_reducible apply And.intro); focus omega) | (refine q7 hK ?_; clear hK; simp only [go_sem, *]) | simp only [q6, z8, go_sem, *])
          all_goals first | contradiction | omega | skip
          exact n0 (i' := i + 1) [some 0] [] (ys) (by exact ⟨hQ, by omega⟩)
      · rw [if_neg (fun h => qe h.1)] at hQ
        have hQ : ys ++ (c5 r s l m (i + 1) ++ c0 r s l (m + 1)) = T := hQ
        repeat' (first | (refine Qr rfl ?_; try intro _ hK; try simp only [go_sem, *]) | (refine Qi rfl rfl rfl rfl ?_ ?_ <;> (intro hb; (try intro _ hK); have hc := hb; try simp only [go_sem] at hc; simp only [go_sem, *])) | refine Qh rfl ?_ | (refine Qc rfl rfl ?_ ?_ <;> (intro hb; have hc := hb; try simp only [go_sem] at hc)) | refine q8 rfl ?_ | (refine y5 (s5) ?_; simp only [go_sem, *]) | ((with_reducible apply And.intro); focus omega) | (refine q7 hK ?_; clear hK; simp only [go_sem, *]) | simp only [q6, z8, go_sem, *])
        all_goals first | contradiction | omega | skip
        exact n0 (i' := i + 1) [some 0] [] (ys) (by exact ⟨hQ, by omega⟩)
    · rw [zGl (by omega)] at hQ
      have hQ : ys ++ c0 r s l (m + 1) = T := hQ
      clear s4
      repeat' (first | (refine Qr rfl ?_; try intro _ hK; try simp only [go_sem, *]) | (refine Qi rfl rfl rfl rfl ?_ ?_ <;> (intro hb; (try intro _ hK); have hc := hb; try simp only [go_sem] at hc; simp only [go_sem, *])) | refine Qh rfl ?_ | (refine Qc rfl rfl ?_ ?_ <;> (intro hb; have hc := hb; try simp only [go_sem] at hc)) | refine q8 rfl ?_ | ((with_reducible apply And.intro); focus omega) | (refine q7 hK ?_; clear hK; simp only [go_sem, *]) | simp only [q6, z8, go_sem, *])
      all_goals first | contradiction | omega | skip
      exact n0 (i' := m + 1) [some 0] [] (ys) (by exact ⟨hQ, by omega⟩)
  · have e : c0 r s l m = [] := by
      unfold c0
      rw [show 3 - m = 0 by omega]; rfl
    rw [e, List.append_nil] at hP
    subst hP
    have hm3 : ¬ (m : Int) < 3 := by omega
    clear s4
    repeat' (first | (refine Qr rfl ?_; try intro _ hK; try simp only [go_sem, *]) | (refine Qi rfl rfl rfl rfl ?_ ?_ <;> (intro hb; (try intro _ hK); have hc := hb; try simp only [go_sem] at hc; simp only [go_sem, *])) | refine Qh rfl ?_ | (refine Qc rfl rfl ?_ ?_ <;> (intro hb; have hc := hb; try simp only [go_sem] at hc)) | refine q8 rfl ?_ | ((with_reducible apply And.intro); focus omega) | (refine q7 hK ?_; clear hK; simp only [go_sem, *]) | simp only [q6, z8, go_sem, *])
    all_goals first | contradiction | omega | skip
    refine ⟨[_, _], [some 0], [], ⟨rfl, rfl, trivial⟩, ?_⟩
    simp only [go_sem, *]
theorem zMM (r : List Rule) (s : Str) (l : List Str) (hl : r.length ≤ 4294967296) (hr : ∀ x, x ∈ r → x.src.length ≤ 4294967296 ∧ x.dst.length ≤ 4294967296) (hll : l.length ≤ 4294967296) (q : ¬ H2 r s l = 0) :
  zMf prog 47 [w6 r, sV s, y8 l] [] (.tup [.raw (.slice none 0 0), iV (H2 r s l)]) [] := by
 have s1 := zA6 r hl hr
 have s2 := G5 s
 have s3 := L7 l hll
 unfold H2 at q ⊢
 generalize o5 r = e1 at *
 generalize x6 s = e2 at *
 generalize v8 l = e3 at *
 clear hl hr hll
 by_cases a : e1 = 0
 ·by_cases b : e2 = 0
  ·rw [if_pos a, if_pos b] at q ⊢
   subst a b
   refine q9 func47 rfl (fun E hE => ?_); simp only [go_sem, ntmps47]
   repeat' (first | (refine Qr rfl ?_; try intro _ hK; try simp only [go_sem, *]) | (refine Qi rfl rfl rfl rfl ?_ ?_ <;> (intro hb; (try intro _ hK); have hc := hb; try simp only [go_sem] at hc; simp only [go_sem, *])) | refine Qh rfl ?_ | (refine Qc rfl rfl ?_ ?_ <;> (intro hb; have hc := hb; try simp only [go_sem] at hc)) | refine q8 rfl ?_ | ((first | refine y5 (s1) ?_ | refine y5 (s2) ?_ | refine y5 (s3) ?_); simp only [go_sem, *]) | ((with_reducible apply And.intro); focus omega) | (refine q7 hK ?_; clear hK; simp only [go_sem, *]) | simp only [q6, z8, go_sem, *])
   all_goals try contradiction
   (refine ⟨[_, _], [], [], ⟨rfl, rfl, trivial⟩, ?_⟩; simp only [go_sem, *])
  ·rw [if_pos a, if_neg b] at q ⊢
   subst a
   refine q9 func47 rfl (fun E hE => ?_); simp only [go_sem, ntmps47]
   repeat' (first | (refine Qr rfl ?_; try intro _ hK; try simp only [go_sem, *]) | (refine Qi rfl rfl rfl rfl ?_ ?_ <;> (intro hb; (try intro _ hK); have hc := hb; try simp only [go_sem] at hc; simp only [go_sem, *])) | refine Qh rfl ?_ | (refine Qc rfl rfl ?_ ?_ <;> (intro hb; have hc := hb; try simp only [go_sem] at hc)) | refine q8 rfl ?_ | ((first | refine y5 (s1) ?_ | refine y5 (s2) ?_ | refine y5 (s3) ?_); simp only [go_sem, *]) | ((with_reducible apply And.intro); focus omega) | (refine q7 hK ?_; clear hK; simp only [go_sem, *]) | simp only [q6, z8, go_sem, *])
   all_goals try contradiction
   (refine ⟨[_, _], [], [], ⟨rfl, rfl, trivial⟩, ?_⟩; simp only [go_sem, *])
 ·rw [if_neg a] at q ⊢
  refine q9 func47 rfl (fun E hE => ?_); simp only [go_sem, ntmps47]
  repeat' (first | (refine Qr rfl ?_; try intro _ hK; try simp only [go_sem, *]) | (refine Qi rfl rfl rfl rfl ?_ ?_ <;> (intro hb; (try intro _ hK); have hc := hb; try simp only [go_sem] at hc; simp only [go_sem, *])) | refine Qh rfl ?_ | (refine Qc rfl rfl ?_ ?_ <;> (intro hb; have hc := hb; try simp only [go_sem] at hc)) | refine q8 rfl ?_ | ((first | refine y5 (s1) ?_ | refine y5 (s2) ?_ | refine y5 (s3) ?_); simp only [go_sem, *]) | ((with_reducible apply And.intro); focus omega) | (refine q7 hK ?_; clear hK; simp only [go_sem, *]) | simp only [q6, z8, go_sem, *])
  all_goals try contradiction
  (refine ⟨[_, _], [], [], ⟨rfl, rfl, trivial⟩, ?_⟩; simp only [go_sem, *])
end Go.Abs

namespace Go.Abs
open Go Go.Proofs Tryz
attribute [local irreducible] y6 Hold x5
def V1 (s p : Str) : Str := if p.isPrefixOf s = true then s.drop p.length else s
theorem zH5 (s p : Str) (h1 : s.length ≤ 4294967296) (h2 : p.length ≤ 4294967296) : zMf prog 161 [sV s, sV p] [] (sV (V1 s p)) [] := by
 have sh := zDS s p h1 h2
 unfold V1
 cases q : p.isPrefixOf s
 ·rw [q] at sh
  rw [if_neg (by decide)]
  clear q
  refine q9 func161 rfl (fun E hE => ?_); simp only [go_sem, ntmps161]
  repeat' (first | (refine Qr rfl ?_; try intro _ hK; try simp only [go_sem, *]) | refine Qh rfl ?_ | (refine Qc rfl rfl ?_ ?_ <;> (intro hb; have hc := hb; try simp only [go_sem] at hc)) | refine q8 rfl ?_ | (refine y5 (sh) ?_; simp only [go_sem, *]) | ((with_reducible apply And.intro); focus omega) | (refine q7 hK ?_; clear hK; simp only [go_sem, *]) | simp only [q6, z8, go_sem, *])
  all_goals try contradiction
  (refine ⟨[_], [], [], ⟨rfl, trivial⟩, ?_⟩; simp only [go_sem, *])
 ·rw [q] at sh
  have hpl := zC7 q
  rw [if_pos rfl]
  clear q
  refine q9 func161 rfl (fun E hE => ?_); simp only [go_sem, ntmps161]
  repeat' (first | (refine Qr rfl ?_; try intro _ hK; try simp only [go_sem, *]) | refine Qh rfl ?_ | (refine Qc rfl rfl ?_ ?_ <;> (intro hb; have hc := hb; try simp only [go_sem] at hc)) | refine q8 rfl ?_ | (refine y5 (sh) ?_; simp only [go_sem, *]) | ((with_reducible apply And.intro); focus omega) | (refine q7 hK ?_; clear hK; simp only [go_sem, *]) | simp only [q6, z8, go_sem, *])
  all_goals try contradiction
  (refine ⟨[_], [], [], ⟨rfl, trivial⟩, ?_⟩; simp only [go_sem, *])
theorem zH4 (s p : Str) (h1 : s.length ≤ 4294967296) (h2 : p.length ≤ 4294967296) : zMf prog 136 [sV s, sV p] [] (sV (V1 s p)) [] := by
 have sh := zH5 s p h1 h2
 generalize V1 s p = t at *
 refine q9 func136 rfl (fun E hE => ?_); simp only [go_sem, ntmps136]
 repeat' (first | (refine Qr rfl ?_; try intro _ hK; try simp only [go_sem, *]) | refine Qh rfl ?_ | (refine Qc rfl rfl ?_ ?_ <;> (intro hb; have hc := hb; try simp only [go_sem] at hc)) | refine q8 rfl ?_ | (refine y5 (sh) ?_; simp only [go_sem, *]) | ((with_reducible apply And.intro); focus omega) | (refine q7 hK ?_; clear hK; simp only [go_sem, *]) | simp only [q6, z8, go_sem, *])
 (refine ⟨[_], [], [], ⟨rfl, trivial⟩, ?_⟩; simp only [go_sem, *])
theorem zIr (a : UInt8) (x : Str) : V1 (a :: x) [a] = x := by simp [V1]
theorem zIq {a c : UInt8} (h : ¬ a = c) (x : Str) : V1 (a :: x) [c] = a :: x := by
 have : ¬ c = a := fun e => h e.symm
 simp [V1, this]
theorem zGN {s : Str} (v : s.all y9 = true) {i : Nat} (h : i < s.length) : (s.getD i 0).toNat < 128 := by
 have hm : s.getD i 0 ∈ s := by simp [List.getD, h]
 have := List.all_eq_true.1 v _ hm
 unfold y9 at this
 simp only [Bool.and_eq_true, decide_eq_true_eq] at this
 omega
theorem zIc (k whole : Str) (hk0 : 0 < k.length) (hk1 : k.length ≤ 1000) (hw : whole.all y9 = true) (hw1 : whole.length ≤ 1000) : zMf prog 111 [sV k, sV whole] [] (bV (X5 k whole)) [] := by
  by_cases q1 : k.length < whole.length
  · have q1i : ¬ (k.length : Int) ≥ (whole.length : Int) := by omega
    by_cases q2 : k.getD 0 0 = whole.getD 0 0
    · have e : X5 k whole = zNC k whole := by
        unfold X5
        rw [decide_eq_true q1, q2]; simp
      rw [e]
      have hP0 : zNC k (whole.drop 0) = zNC k whole := rfl
      generalize zNC k whole = R at *
      have q2n : ((k.getD 0 0).toNat : Int) = (whole.getD 0 0).toNat := by rw [q2]
      have hwa := fun i => zGN (i := i) hw
      clear e q2 hw
      refine q9 func111 rfl (fun E hE => ?_); simp only [go_sem, ntmps111]
      repeat' (first | (refine Qr rfl ?_; try intro _ hK; try simp only [go_sem, *]) | (refine Qi rfl rfl rfl rfl ?_ ?_ <;> (intro hb; (try intro _ hK); have hc := hb; try simp only [go_sem] at hc; simp only [go_sem, *])) | refine Qh rfl ?_ | refine Qd rfl (by kernel_rfl) ?_ | (refine Qc rfl rfl ?_ ?_ <;> (intro hb; have hc := hb; try simp only [go_sem] at hc)) | refine q8 rfl ?_ | (refine Qb ?_ ?_; focus kernel_rfl) | ((with_reducible apply And.intro); focus omega) | (refine q7 hK ?_; clear hK; simp only [go_sem, *]) | simp only [q6, z8, go_sem, *])
      all_goals first | contradiction | omega | skip
      refine a7 rfl (whole.length) (fun i (rest : Str) => 0 < rest.length ∧ rest.length ≤ 1000 ∧ zNC rest (whole.drop i) = R) 32 (fun i rest => [(22, .ptr 0 0), (5, sV rest)]) (fun i rest => [.siter ⟨whole.toArray⟩ i]) [some 0] [] (k) (by exact ⟨hk0, hk1, hP0⟩) ?_; intro i rest hi hP
      clear hP0 q2n
      obtain ⟨hr0, hr1, hP⟩ := hP
      obtain ⟨a, x, rfl⟩ : ∃ a x, rest = a :: x := by
        cases rest with
        | nil => simp at hr0
        | cons a x => exact ⟨a, x, rfl⟩
      by_cases hi2 : i < whole.length
      · have ha := hwa i hi2
        have hd := A9 hi2 ha
        have ee := zBn (n := ((whole.getD i 0).toNat : Int)) (by omega) (by omega)
        rw [Int.toNat_natCast, UInt8.ofNat_toNat] at ee
        have st := zH4 (a :: x) [whole.getD i 0] (by omega) (by simp)
        rw [j4 hi2] at hP
        have hP : (if a = whole.getD i default then zNC x (whole.drop (i + 1)) else zNC (a :: x) (whole.drop (i + 1))) = R := hP
        have hdef : whole.getD i default = whole.getD i 0 := rfl
        rw [hdef] at hP
        clear hdef hwa
        generalize whole.getD i 0 = c at *
        generalize he : Utf8.encode (c.toNat : Int) = eb at *
        have st : zMf prog 136 [sV (a :: x), .raw (.string eb)] [] (sV (V1 (a :: x) [c])) [] := by rw [ee]; exact st
        clear ee
        by_cases hac : a = c
        · subst hac
          rw [if_pos rfl] at hP
          rw [zIr] at st
          cases x with
          | nil =>
            have hP : true = R := by rw [← hP]; cases whole.drop (i + 1) <;> rfl
            subst hP
            repeat' (first | (refine Qr rfl ?_; try intro _ hK; try simp only [go_sem, *]) | (refine Qi rfl rfl rfl rfl ?_ ?_ <;> (intro hb; (try intro _ hK); have hc := hb; try simp only [go_sem] at hc; simp only [go_sem, *])) | refine Qh rfl ?_ | refine Qd rfl (by kernel_rfl) ?_ | (refine Qc rfl rfl ?_ ?_ <;> (intro hb; have hc := hb; try simp only [go_sem] at hc)) | refine q8 rfl ?_ | (refine Qb ?_ ?_; focus kernel_rfl) | (refine y5 (st) ?_; simp only [go_sem, *]) | ((with_reducible apply And.intro); focus omega) | (refine q7 hK ?_; clear hK; simp only [go_sem, *]) | simp only [q6, z8, go_sem, *])
            all_goals ((try clear hd he); first | contradiction | skip)
            (refine ⟨[_], [], [], ⟨rfl, trivial⟩, ?_⟩; simp only [go_sem, *])
          | cons b y =>
            have hr1' : (b :: y).length ≤ 1000 := by simp at hr1 ⊢; omega
            clear hr0 hr1
            repeat' (first | (refine Qr rfl ?_; try intro _ hK; try simp only [go_sem, *]) | (refine Qi rfl rfl rfl rfl ?_ ?_ <;> (intro hb; (try intro _ hK); have hc := hb; try simp only [go_sem] at hc; simp only [go_sem, *])) | refine Qh rfl ?_ | refine Qd rfl (by kernel_rfl) ?_ | (refine Qc rfl rfl ?_ ?_ <;> (intro hb; have hc := hb; try simp only [go_sem] at hc)) | refine q8 rfl ?_ | (refine Qb ?_ ?_; focus kernel_rfl) | (refine y5 (st) ?_; simp only [go_sem, *]) | ((with_reducible apply And.intro); focus omega) | (refine q7 hK ?_; clear hK; simp only [go_sem, *]) | simp only [q6, z8, go_sem, *])
            all_goals ((try clear hd he); first | contradiction | skip)
            exact n0 (i' := i + 1) [some 0] [] (b :: y) (by exact ⟨by simp, hr1', hP⟩)
        · rw [if_neg hac] at hP
          rw [zIq hac] at st
          clear hac
          repeat' (first | (refine Qr rfl ?_; try intro _ hK; try simp only [go_sem, *]) | (refine Qi rfl rfl rfl rfl ?_ ?_ <;> (intro hb; (try intro _ hK); have hc := hb; try simp only [go_sem] at hc; simp only [go_sem, *])) | refine Qh rfl ?_ | refine Qd rfl (by kernel_rfl) ?_ | (refine Qc rfl rfl ?_ ?_ <;> (intro hb; have hc := hb; try simp only [go_sem] at hc)) | refine q8 rfl ?_ | (refine Qb ?_ ?_; focus kernel_rfl) | (refine y5 (st) ?_; simp only [go_sem, *]) | ((with_reducible apply And.intro); focus omega) | (refine q7 hK ?_; clear hK; simp only [go_sem, *]) | simp only [q6, z8, go_sem, *])
          all_goals ((try clear hd he); first | contradiction | skip)
          exact n0 (i' := i + 1) [some 0] [] (a :: x) (by exact ⟨hr0, hr1, hP⟩)
      · rw [d7 (by omega)] at hP
        have hP : false = R := hP
        subst hP
        clear hwa
        repeat' (first | (refine Qr rfl ?_; try intro _ hK; try simp only [go_sem, *]) | (refine Qi rfl rfl rfl rfl ?_ ?_ <;> (intro hb; (try intro _ hK); have hc := hb; try simp only [go_sem] at hc; simp only [go_sem, *])) | refine Qh rfl ?_ | refine Qd rfl (by kernel_rfl) ?_ | (refine Qc rfl rfl ?_ ?_ <;> (intro hb; have hc := hb; try simp only [go_sem] at hc)) | refine q8 rfl ?_ | (refine Qb ?_ ?_; focus kernel_rfl) | ((with_reducible apply And.intro); focus omega) | (refine q7 hK ?_; clear hK; simp only [go_sem, *]) | simp only [q6, z8, go_sem, *])
        all_goals first | contradiction | omega | skip
        (refine ⟨[_], [], [], ⟨rfl, trivial⟩, ?_⟩; simp only [go_sem, *])
    · have e : X5 k whole = false := by
        unfold X5
        rw [show (k.getD 0 0 == whole.getD 0 0) = false by simpa using q2]; simp
      rw [e]
      have q2n : ¬ ((k.getD 0 0).toNat : Int) = (whole.getD 0 0).toNat := fun h => q2 (UInt8.toNat_inj.1 (by omega))
      clear e q2 hw
      refine q9 func111 rfl (fun E hE => ?_); simp only [go_sem, ntmps111]
      repeat' (first | (refine Qr rfl ?_; try intro _ hK; try simp only [go_sem, *]) | (refine Qi rfl rfl rfl rfl ?_ ?_ <;> (intro hb; (try intro _ hK); have hc := hb; try simp only [go_sem] at hc; simp only [go_sem, *])) | refine Qh rfl ?_ | refine Qd rfl (by kernel_rfl) ?_ | (refine Qc rfl rfl ?_ ?_ <;> (intro hb; have hc := hb; try simp only [go_sem] at hc)) | refine q8 rfl ?_ | (refine Qb ?_ ?_; focus kernel_rfl) | ((with_reducible apply And.intro); focus omega) | (refine q7 hK ?_; clear hK; simp only [go_sem, *]) | simp only [q6, z8, go_sem, *])
      all_goals first | contradiction | omega | skip
      (refine ⟨[_], [], [], ⟨rfl, trivial⟩, ?_⟩; simp only [go_sem, *])
  · have e : X5 k whole = false := by
      unfold X5
      rw [decide_eq_false q1]; rfl
    rw [e]
    clear e hw
    have q1i : (k.length : Int) ≥ (whole.length : Int) := by omega
    refine q9 func111 rfl (fun E hE => ?_); simp only [go_sem, ntmps111]
    repeat' (first | (refine Qr rfl ?_; try intro _ hK; try simp only [go_sem, *]) | (refine Qi rfl rfl rfl rfl ?_ ?_ <;> (intro hb; (try intro _ hK); have hc := hb; try simp only [go_sem] at hc; simp only [go_sem, *])) | refine Qh rfl ?_ | refine Qd rfl (by kernel_rfl) ?_ | (refine Qc rfl rfl ?_ ?_ <;> (intro hb; have hc := hb; try simp only [go_sem] at hc)) | refine q8 rfl ?_ | (refine Qb ?_ ?_; focus kernel_rfl) | ((with_reducible apply And.intro); focus omega) | (refine q7 hK ?_; clear hK; simp only [go_sem, *]) | simp only [q6, z8, go_sem, *])
    all_goals first | contradiction | omega | skip
    (refine ⟨[_], [], [], ⟨rfl, trivial⟩, ?_⟩; simp only [go_sem, *])
end Go.Abs

namespace Go.Abs
open Go Go.Proofs Tryz
attribute [local irreducible] y6 Hold x5
def zMy (k own s : Str) : Bool := !(decide (zMh s = own)) && X5 k (zMh s)
theorem zIQ (k own s : Str) (hk0 : 0 < k.length) (hk1 : k.length ≤ 1000) (v : ValidN s) : zMf prog 139 [sV s, .ptr 0 0, .ptr 1 0] [.box [sV own], .box [sV k]] (bV (zMy k own s)) [.box [sV own], .box [sV k]] := by
 have so := P6 s v.form (by have := v.len; omega)
 have hkl := zAW v
 unfold w5 at hkl
 simp only [Bool.and_eq_true, decide_eq_true_eq] at hkl
 have ss := zIc k (zMh s) hk0 hk1 hkl.2.2 (by omega)
 unfold zMy
 generalize zMh s = ks at *
 generalize X5 k ks = b at *
 clear hkl v hk0
 by_cases q : ks = own
 ·have e : (!decide (ks = own) && b) = false := by rw [decide_eq_true q]; rfl
  rw [e]
  subst q
  clear e ss
  refine q9 func139 rfl (fun E hE => ?_); simp only [go_sem, ntmps139]
  repeat' (first | (refine Qr rfl ?_; try intro _ hK; try simp only [go_sem, *]) | (refine Qi rfl rfl rfl rfl ?_ ?_ <;> (intro hb; (try intro _ hK); have hc := hb; try simp only [go_sem] at hc; simp only [go_sem, *])) | refine Qh rfl ?_ | refine Qd rfl (by kernel_rfl) ?_ | (refine Qc rfl rfl ?_ ?_ <;> (intro hb; have hc := hb; try simp only [go_sem] at hc)) | refine q8 rfl ?_ | (refine Qb ?_ ?_; focus kernel_rfl) | (refine y5 (so) ?_; simp only [go_sem, *]) | ((with_reducible apply And.intro); focus omega) | (refine q7 hK ?_; clear hK; simp only [go_sem, *]) | simp only [q6, z8, go_sem, *])
  all_goals try contradiction
  refine ⟨[_], [some 0, some 1], [], ⟨rfl, trivial⟩, ?_⟩
  simp only [go_sem, *]
 ·have e : (!decide (ks = own) && b) = b := by rw [decide_eq_false q]; rfl
  rw [e]
  clear e
  refine q9 func139 rfl (fun E hE => ?_); simp only [go_sem, ntmps139]
  repeat' (first | (refine Qr rfl ?_; try intro _ hK; try simp only [go_sem, *]) | (refine Qi rfl rfl rfl rfl ?_ ?_ <;> (intro hb; (try intro _ hK); have hc := hb; try simp only [go_sem] at hc; simp only [go_sem, *])) | refine Qh rfl ?_ | refine Qd rfl (by kernel_rfl) ?_ | (refine Qc rfl rfl ?_ ?_ <;> (intro hb; have hc := hb; try simp only [go_sem] at hc)) | refine q8 rfl ?_ | (refine Qb ?_ ?_; focus kernel_rfl) | ((first | refine y5 (so) ?_ | refine y5 (ss) ?_); simp only [go_sem, *]) | ((with_reducible apply And.intro); focus omega) | (refine q7 hK ?_; clear hK; simp only [go_sem, *]) | simp only [q6, z8, go_sem, *])
  all_goals try contradiction
  refine ⟨[_], [some 0, some 1], [], ⟨rfl, trivial⟩, ?_⟩
  simp only [go_sem, *]
def zM4 (p : Str → Bool) : List Str → Nat → Int
 | [], _ => -1
 | x :: r, i => if p x = true then (i : Int) else zM4 p r (i + 1)
theorem zCF (p : Str → Bool) : ∀ (l : List Str) (i : Nat), decide (zM4 p l i ≥ 0) = l.any p
 | [], i => by simp [zM4]
 | x :: r, i => by
  rw [zM4, List.any_cons]
  cases hp : p x with
  | true => simp
  | false => rw [if_neg (by decide), zCF p r (i + 1), Bool.false_or]
theorem zHv (k own : Str) (l : List Str) (hk0 : 0 < k.length) (hk1 : k.length ≤ 1000) (hv : ∀ s, s ∈ l → ValidN s) (hl : l.length ≤ 1000) :
  zMf prog 162 [y8 l, .fn 139 [.ptr 0 0, .ptr 1 0]] [.box [sV own], .box [sV k]] (iV (zM4 (zMy k own) l 0)) [.box [sV own], .box [sV k]] := by
 have hca : p7 prog 139 = true := by kernel_rfl
 have h0 : zM4 (zMy k own) (l.drop 0) 0 = zM4 (zMy k own) l 0 := rfl
 generalize zM4 (zMy k own) l 0 = T at *
 have sm := fun s v => zIQ k own s hk0 hk1 v
 refine q9 func162 rfl (fun E hE => ?_); simp only [go_sem, ntmps162]
 repeat' (first | (refine Qr rfl ?_; try intro _ hK; try simp only [go_sem, *]) | refine Qh rfl ?_ | (refine Qc rfl rfl ?_ ?_ <;> (intro hb; have hc := hb; try simp only [go_sem] at hc)) | refine q8 rfl ?_ | ((with_reducible apply And.intro); focus omega) | (refine q7 hK ?_; clear hK; simp only [go_sem, *]) | simp only [q6, z8, go_sem, *])
 refine o9 rfl (l.length) (fun i => zM4 (zMy k own) (l.drop i) i = T) 19 (fun i => [(8, iV i), (7, iV l.length), (0, y8 l), (1, .fn 139 [.ptr 0 0, .ptr 1 0])]) (fun i => [.box [sV own], .box [sV k]]) [some 0, some 1] [] (by exact h0) ?_; intro i hi hP
 clear h0
 by_cases hi2 : i < l.length
 ·have sc := sm _ (hv _ (j9 hi2))
  rw [j4 hi2, zM4] at hP
  generalize hm : zMy k own (l.getD i default) = b at *
  clear hm
  cases b
  ·have hP : zM4 (zMy k own) (l.drop (i + 1)) (i + 1) = T := hP
   clear sm
   repeat' (first | (refine Qr rfl ?_; try intro _ hK; try simp only [go_sem, *]) | refine Qh rfl ?_ | (refine Qc rfl rfl ?_ ?_ <;> (intro hb; have hc := hb; try simp only [go_sem] at hc)) | refine q8 rfl ?_ | (refine t8 [0, 1] (sc) ?_; simp only [go_sem, *]) | ((with_reducible apply And.intro); focus omega) | (refine q7 hK ?_; clear hK; simp only [go_sem, *]) | simp only [q6, z8, go_sem, *])
   all_goals first | contradiction | omega | skip
   exact f8 (i' := i + 1) [some 0, some 1] [] (by exact hP)
  ·have hP : (i : Int) = T := hP
   subst hP
   clear sm
   repeat' (first | (refine Qr rfl ?_; try intro _ hK; try simp only [go_sem, *]) | refine Qh rfl ?_ | (refine Qc rfl rfl ?_ ?_ <;> (intro hb; have hc := hb; try simp only [go_sem] at hc)) | refine q8 rfl ?_ | (refine t8 [0, 1] (sc) ?_; simp only [go_sem, *]) | ((with_reducible apply And.intro); focus omega) | (refine q7 hK ?_; clear hK; simp only [go_sem, *]) | simp only [q6, z8, go_sem, *])
   all_goals first | contradiction | omega | skip
   refine ⟨[_], [some 0, some 1], [], ⟨rfl, trivial⟩, ?_⟩
   simp only [go_sem, *]
 ·rw [d7 (by omega)] at hP
  have hP : (-1 : Int) = T := hP
  subst hP
  clear sm
  repeat' (first | (refine Qr rfl ?_; try intro _ hK; try simp only [go_sem, *]) | refine Qh rfl ?_ | (refine Qc rfl rfl ?_ ?_ <;> (intro hb; have hc := hb; try simp only [go_sem] at hc)) | refine q8 rfl ?_ | ((with_reducible apply And.intro); focus omega) | (refine q7 hK ?_; clear hK; simp only [go_sem, *]) | simp only [q6, z8, go_sem, *])
  all_goals first | contradiction | omega | skip
  refine ⟨[_], [some 0, some 1], [], ⟨rfl, trivial⟩, ?_⟩
  simp only [go_sem, *]
theorem zHo (k own : Str) (l : List Str) (hk0 : 0 < k.length) (hk1 : k.length ≤ 1000) (hv : ∀ s, s ∈ l → ValidN s) (hl : l.length ≤ 1000) :
  zMf prog 138 [y8 l, .fn 139 [.ptr 0 0, .ptr 1 0]] [.box [sV own], .box [sV k]] (bV (l.any (zMy k own))) [.box [sV own], .box [sV k]] := by
 have si := zHv k own l hk0 hk1 hv hl
 rw [← zCF (zMy k own) l 0]
 generalize zM4 (zMy k own) l 0 = n at *
 clear hv
 refine q9 func138 rfl (fun E hE => ?_); simp only [go_sem, ntmps138]
 repeat' (first | (refine Qr rfl ?_; try intro _ hK; try simp only [go_sem, *]) | refine Qh rfl ?_ | (refine Qc rfl rfl ?_ ?_ <;> (intro hb; have hc := hb; try simp only [go_sem] at hc)) | refine q8 rfl ?_ | (refine t8 [0, 1] (si) ?_; simp only [go_sem, *]) | ((with_reducible apply And.intro); focus omega) | (refine q7 hK ?_; clear hK; simp only [go_sem, *]) | simp only [q6, z8, go_sem, *])
 refine ⟨[_], [some 0, some 1], [], ⟨rfl, trivial⟩, ?_⟩
 simp only [go_sem, *]
theorem zIR (k own : Str) (l : List Str) (hk0 : 0 < k.length) (hk1 : k.length ≤ 1000) (hv : ∀ s, s ∈ l → ValidN s) (hl : l.length ≤ 1000) :
  zMf prog 114 [sV k, y8 l, sV own] [] (bV (l9 k l own)) [] := by
 have sc := zHo k own l hk0 hk1 hv hl
 have e : l9 k l own = l.any (zMy k own) := rfl
 rw [e]
 clear e hv
 generalize l.any (zMy k own) = b at *
 refine q9 func114 rfl (fun E hE => ?_); simp only [go_sem, ntmps114]
 repeat' (first | (refine Qr rfl ?_; try intro _ hK; try simp only [go_sem, *]) | refine Qh rfl ?_ | (refine Qc rfl rfl ?_ ?_ <;> (intro hb; have hc := hb; try simp only [go_sem] at hc)) | refine q8 rfl ?_ | (refine t8 [1, 0] (sc) ?_; simp only [go_sem, *]) | ((with_reducible apply And.intro); focus omega) | (refine q7 hK ?_; clear hK; simp only [go_sem, *]) | simp only [q6, z8, go_sem, *])
 (refine ⟨[_], [], [], ⟨rfl, trivial⟩, ?_⟩; simp only [go_sem, *])
end Go.Abs

namespace Go.Abs
open Go Go.Proofs Tryz
attribute [local irreducible] y6 Hold x5
abbrev zBi (now : Str) (i : Nat) : List AV := [sV now, iV i, .ptr 0 0, .ptr 1 0, .ptr 2 0]
abbrev U1 (k : Str) (m : List Str) : List AObj := [.box [sV k], .box [.mp 3], .box [.fn 140 [.ptr 0 0, .ptr 1 0, .ptr 2 0]], .mapo (m.map zMo) (m.map fun _ => bV true)]
def SmallL (m : List Str) : Prop := ∀ x, x ∈ m → x.length ≤ 1000
theorem SmallL.met {k now : Str} {m : List Str} (h : SmallL m) (hn : now.length ≤ 1000) : SmallL (zMx k m now) := fun x hx => by
 rcases mem_metC.1 hx with hx | ⟨rfl, _⟩
 ·exact h x hx
 ·exact hn
theorem SmallL.go {k now : Str} {m : List Str} {n i : Nat} (h : SmallL m) (hk : k.length ≤ 1000) (hi : k.length - i ≤ n) : SmallL (goC k n m now i) := fun x hx => by
 rcases (zAi hi).1 hx with hx | ⟨t, _, _, hl⟩
 ·exact h x hx
 ·omega
theorem zDX (k : Str) (hk : k.length ≤ 1000) : ∀ (n : Nat) (m : List Str) (now : Str) (i : Nat), k.length - i ≤ n → now.length ≤ i → i ≤ k.length → SmallL m →
  zMf prog 140 (zBi now i) (U1 k m) (.tup []) (U1 k (goC k n m now i))
 | 0, m, now, i, hn, h1, h2, hs => by
  have hi : i = k.length := by omega
  subst hi
  have e : goC k 0 m now k.length = zMx k m now := rfl
  rw [e]
  clear e
  unfold zMx
  by_cases q : now.length < k.length
  ·rw [if_pos q]
   have qi : (now.length : Int) < (k.length : Int) := by omega
   refine q9 func140 rfl (fun E hE => ?_); simp only [go_sem, ntmps140]
   repeat' (first | (refine Qr rfl ?_; try intro _ hK; try simp only [go_sem, *]) | refine Qh rfl ?_ | refine Qd rfl (by kernel_rfl) ?_ | (refine Qc rfl rfl ?_ ?_ <;> (intro hb; have hc := hb; try simp only [go_sem] at hc)) | refine q8 rfl ?_ | (refine Qb ?_ ?_; focus kernel_rfl) | ((with_reducible apply And.intro); focus omega) | (refine q7 hK ?_; clear hK; simp only [go_sem, *]) | simp only [q6, z8, go_sem, *])
   all_goals first | contradiction | omega | skip
   refine zBB hs (by omega) (by simp only [go_sem]) ?_
   repeat' (first | (refine Qr rfl ?_; try intro _ hK; try simp only [go_sem, *]) | refine Qh rfl ?_ | refine Qd rfl (by kernel_rfl) ?_ | (refine Qc rfl rfl ?_ ?_ <;> (intro hb; have hc := hb; try simp only [go_sem] at hc)) | refine q8 rfl ?_ | (refine Qb ?_ ?_; focus kernel_rfl) | ((with_reducible apply And.intro); focus omega) | (refine q7 hK ?_; clear hK; simp only [go_sem, *]) | simp only [q6, z8, go_sem, *])
   refine o9 rfl (1) (fun t => NoQ t) 33 (fun t => [(7, iV k.length), (0, sV now), (2, .ptr 0 0), (3, .ptr 1 0), (4, .ptr 2 0)]) (fun t => U1 k (zM2 m now)) [some 0, some 1, some 2, some 3] [] (by trivial) ?_; intro t ht hP
   repeat' (first | (refine Qr rfl ?_; try intro _ hK; try simp only [go_sem, *]) | refine Qh rfl ?_ | refine Qd rfl (by kernel_rfl) ?_ | (refine Qc rfl rfl ?_ ?_ <;> (intro hb; have hc := hb; try simp only [go_sem] at hc)) | refine q8 rfl ?_ | (refine Qb ?_ ?_; focus kernel_rfl) | ((with_reducible apply And.intro); focus omega) | (refine q7 hK ?_; clear hK; simp only [go_sem, *]) | simp only [q6, z8, go_sem, *])
   all_goals first | contradiction | omega | skip
   refine ⟨[], [some 0, some 1, some 2, some 3], [], trivial, ?_⟩
   simp only [go_sem, f9, *]
  ·rw [if_neg q]
   have qi : ¬ (now.length : Int) < (k.length : Int) := by omega
   refine q9 func140 rfl (fun E hE => ?_); simp only [go_sem, ntmps140]
   repeat' (first | (refine Qr rfl ?_; try intro _ hK; try simp only [go_sem, *]) | refine Qh rfl ?_ | refine Qd rfl (by kernel_rfl) ?_ | (refine Qc rfl rfl ?_ ?_ <;> (intro hb; have hc := hb; try simp only [go_sem] at hc)) | refine q8 rfl ?_ | (refine Qb ?_ ?_; focus kernel_rfl) | ((with_reducible apply And.intro); focus omega) | (refine q7 hK ?_; clear hK; simp only [go_sem, *]) | simp only [q6, z8, go_sem, *])
   all_goals first | contradiction | omega | skip
   refine o9 rfl (1) (fun t => NoQ t) 33 (fun t => [(7, iV k.length), (0, sV now), (2, .ptr 0 0), (3, .ptr 1 0), (4, .ptr 2 0)]) (fun t => U1 k m) [some 0, some 1, some 2, some 3] [] (by trivial) ?_; intro t ht hP
   repeat' (first | (refine Qr rfl ?_; try intro _ hK; try simp only [go_sem, *]) | refine Qh rfl ?_ | refine Qd rfl (by kernel_rfl) ?_ | (refine Qc rfl rfl ?_ ?_ <;> (intro hb; have hc := hb; try simp only [go_sem] at hc)) | refine q8 rfl ?_ | (refine Qb ?_ ?_; focus kernel_rfl) | ((with_reducible apply And.intro); focus omega) | (refine q7 hK ?_; clear hK; simp only [go_sem, *]) | simp only [q6, z8, go_sem, *])
   all_goals first | contradiction | omega | skip
   refine ⟨[], [some 0, some 1, some 2, some 3], [], trivial, ?_⟩
   simp only [go_sem, f9, *]
 | n + 1, m, now, i, hn, h1, h2, hs => by
  have hca : p7 prog 140 = true := by kernel_rfl
  have IH := zDX k hk n
  rw [zAO]
  have hs2 : SmallL (zMx k m now) := hs.met (by omega)
  obtain ⟨T, hT⟩ : ∃ T, Q6 k n (zMx k m now) now (i + 0) = T := ⟨_, rfl⟩
  have hT0 : Q6 k n (zMx k m now) now i = T := hT
  rw [hT0]
  clear hT0
  unfold zMx at hT hs2
  by_cases q : now.length < k.length
  ·rw [if_pos q] at hT hs2
   have qi : (now.length : Int) < (k.length : Int) := by omega
   refine q9 func140 rfl (fun E hE => ?_); simp only [go_sem, ntmps140]
   repeat' (first | (refine Qr rfl ?_; try intro _ hK; try simp only [go_sem, *]) | refine Qh rfl ?_ | refine Qd rfl (by kernel_rfl) ?_ | (refine Qc rfl rfl ?_ ?_ <;> (intro hb; have hc := hb; try simp only [go_sem] at hc)) | refine q8 rfl ?_ | (refine Qb ?_ ?_; focus kernel_rfl) | ((with_reducible apply And.intro); focus omega) | (refine q7 hK ?_; clear hK; simp only [go_sem, *]) | simp only [q6, z8, go_sem, *])
   all_goals first | contradiction | omega | skip
   refine zBB hs (by omega) (by simp only [go_sem]) ?_
   repeat' (first | (refine Qr rfl ?_; try intro _ hK; try simp only [go_sem, *]) | refine Qh rfl ?_ | refine Qd rfl (by kernel_rfl) ?_ | (refine Qc rfl rfl ?_ ?_ <;> (intro hb; have hc := hb; try simp only [go_sem] at hc)) | refine q8 rfl ?_ | (refine Qb ?_ ?_; focus kernel_rfl) | ((with_reducible apply And.intro); focus omega) | (refine q7 hK ?_; clear hK; simp only [go_sem, *]) | simp only [q6, z8, go_sem, *])
   refine a7 rfl (k.length - i) (fun t (z : List Str) => Q6 k n z now (i + t) = T ∧ SmallL z) 33 (fun t z => [(7, iV ((i + t : Nat) : Int)), (0, sV now), (2, .ptr 0 0), (3, .ptr 1 0), (4, .ptr 2 0)]) (fun t z => U1 k z) [some 0, some 1, some 2, some 3] [] (zM2 m now) (by exact ⟨hT, hs2⟩) ?_; intro t z ht hP
   clear hT hs2 hs
   obtain ⟨hP, hz⟩ := hP
   generalize hjj : i + t = j at *
   by_cases hj : j < k.length
   ·rw [zAN hj] at hP
    have sI := IH z (now ++ [k.getD j 0]) (j + 1) (by omega) (by simp; omega) (by omega) hz
    have hz2 : SmallL (goC k n z (now ++ [k.getD j 0]) (j + 1)) := hz.go hk (by omega)
    have hdt := zAA hj
    have hji : (j : Int) < (k.length : Int) := by omega
    have hwj : IntKind.i64.wrap ((j : Int) + 1) = ((j + 1 : Nat) : Int) := r7 (by omega)
    have hnx : i + (t + 1) = j + 1 := by omega
    generalize goC k n z (now ++ [k.getD j 0]) (j + 1) = z2 at *
    clear IH hz
    repeat' (first | (refine Qr rfl ?_; try intro _ hK; try simp only [go_sem, *]) | refine Qh rfl ?_ | refine Qd rfl (by kernel_rfl) ?_ | (refine Qc rfl rfl ?_ ?_ <;> (intro hb; have hc := hb; try simp only [go_sem] at hc)) | refine q8 rfl ?_ | (refine Qb ?_ ?_; focus kernel_rfl) | ((with_reducible apply And.intro); focus omega) | (refine q7 hK ?_; clear hK; simp only [go_sem, *]) | simp only [q6, z8, go_sem, *])
    refine t8 [0, 1, 2, 3] sI ?_
    simp only [go_sem, *]
    repeat' (first | (refine Qr rfl ?_; try intro _ hK; try simp only [go_sem, *]) | refine Qh rfl ?_ | refine Qd rfl (by kernel_rfl) ?_ | (refine Qc rfl rfl ?_ ?_ <;> (intro hb; have hc := hb; try simp only [go_sem] at hc)) | refine q8 rfl ?_ | (refine Qb ?_ ?_; focus kernel_rfl) | ((with_reducible apply And.intro); focus omega) | (refine q7 hK ?_; clear hK; simp only [go_sem, *]) | simp only [q6, z8, go_sem, *])
    all_goals first | contradiction | omega | skip
    exact n0 (i' := t + 1) [some 0, some 1, some 2, some 3] [] (z2) (by rw [hnx]; exact ⟨hP, hz2⟩)
   ·rw [E2 (by omega)] at hP
    subst hP
    have hji : ¬ (j : Int) < (k.length : Int) := by omega
    clear IH hz
    repeat' (first | (refine Qr rfl ?_; try intro _ hK; try simp only [go_sem, *]) | refine Qh rfl ?_ | refine Qd rfl (by kernel_rfl) ?_ | (refine Qc rfl rfl ?_ ?_ <;> (intro hb; have hc := hb; try simp only [go_sem] at hc)) | refine q8 rfl ?_ | (refine Qb ?_ ?_; focus kernel_rfl) | ((with_reducible apply And.intro); focus omega) | (refine q7 hK ?_; clear hK; simp only [go_sem, *]) | simp only [q6, z8, go_sem, *])
    all_goals first | contradiction | omega | skip
    refine ⟨[], [some 0, some 1, some 2, some 3], [], trivial, ?_⟩
    simp only [go_sem, f9, *]
  ·rw [if_neg q] at hT hs2
   have qi : ¬ (now.length : Int) < (k.length : Int) := by omega
   have hik : i = k.length := by omega
   rw [E2 (by omega)] at hT
   subst hT
   subst hik
   clear IH
   refine q9 func140 rfl (fun E hE => ?_); simp only [go_sem, ntmps140]
   repeat' (first | (refine Qr rfl ?_; try intro _ hK; try simp only [go_sem, *]) | refine Qh rfl ?_ | refine Qd rfl (by kernel_rfl) ?_ | (refine Qc rfl rfl ?_ ?_ <;> (intro hb; have hc := hb; try simp only [go_sem] at hc)) | refine q8 rfl ?_ | (refine Qb ?_ ?_; focus kernel_rfl) | ((with_reducible apply And.intro); focus omega) | (refine q7 hK ?_; clear hK; simp only [go_sem, *]) | simp only [q6, z8, go_sem, *])
   all_goals first | contradiction | omega | skip
   refine o9 rfl (1) (fun t => NoQ t) 33 (fun t => [(7, iV k.length), (0, sV now), (2, .ptr 0 0), (3, .ptr 1 0), (4, .ptr 2 0)]) (fun t => U1 k m) [some 0, some 1, some 2, some 3] [] (by trivial) ?_; intro t ht hP
   repeat' (first | (refine Qr rfl ?_; try intro _ hK; try simp only [go_sem, *]) | refine Qh rfl ?_ | refine Qd rfl (by kernel_rfl) ?_ | (refine Qc rfl rfl ?_ ?_ <;> (intro hb; have hc := hb; try simp only [go_sem] at hc)) | refine q8 rfl ?_ | (refine Qb ?_ ?_; focus kernel_rfl) | ((with_reducible apply And.intro); focus omega) | (refine q7 hK ?_; clear hK; simp only [go_sem, *]) | simp only [q6, z8, go_sem, *])
   all_goals first | contradiction | omega | skip
   refine ⟨[], [some 0, some 1, some 2, some 3], [], trivial, ?_⟩
   simp only [go_sem, f9, *]
end Go.Abs

namespace Go.Abs
open Go Go.Proofs Tryz
attribute [local irreducible] y6 Hold x5
def Bc : Nat → Nat
 | 0 => 1
 | n + 1 => 1 + (n + 1) * Bc n
theorem zD4 : ∀ n, n < 13 → Bc n ≤ 2000000000 := by decide
theorem zCs (k : Str) (m : List Str) (now : Str) : (zMx k m now).length ≤ m.length + 1 := by
 unfold zMx zM2
 split
 ·split
  ·omega
  ·simp
 ·omega
theorem zB7 (k : Str) : ∀ (n : Nat) (m : List Str) (now : Str) (i : Nat), k.length - i ≤ n → (goC k n m now i).length ≤ m.length + Bc n
 | 0, m, now, i, _ => zCs k m now
 | n + 1, m, now, i, h => by
  have key : ∀ (c : Nat) (i : Nat) (m : List Str), k.length - i = c → c ≤ n + 1 → (Q6 k n m now i).length ≤ m.length + c * Bc n := by
   intro c
   induction c with
   | zero => intro i m h1 _; rw [E2 (by omega)]; omega
   | succ c ih =>
    intro i m h1 h2
    rw [zAN (by omega)]
    have a := ih (i + 1) (goC k n m (now ++ [k.getD i 0]) (i + 1)) (by omega) (by omega)
    have b := zB7 k n m (now ++ [k.getD i 0]) (i + 1) (by omega)
    have e : (c + 1) * Bc n = c * Bc n + Bc n := Nat.succ_mul _ _
    omega
  rw [zAO]
  have a := key (k.length - i) i (zMx k m now) rfl h
  have b := zCs k m now
  have d : (k.length - i) * Bc n ≤ (n + 1) * Bc n := Nat.mul_le_mul_right _ h
  have e : Bc (n + 1) = 1 + (n + 1) * Bc n := rfl
  omega
theorem zBk {k : Str} (hk : k.length ≤ 12) (hk0 : 0 < k.length) : (U2 k).length ≤ 2000000000 := by
 have a := zB7 k k.length [] (k.take 1) 1 (by omega)
 have b := zD4 k.length (by omega)
 have e : U2 k = goC k k.length [] (k.take 1) 1 := rfl
 rw [e]; simp only [List.length_nil] at a; omega
theorem zAe {α β : Type} (f : α → β) : ∀ (l : List α) (i : Nat), (l.eraseIdx i).map f = (l.map f).eraseIdx i
 | [], _ => rfl
 | _ :: _, 0 => rfl
 | x :: r, i + 1 => by simp [zAe f r i]
theorem zBq {α : Type} : ∀ (l : List α) (i : Nat) (h : i < l.length), l.Perm (l[i] :: l.eraseIdx i)
 | x :: r, 0, _ => .refl _
 | x :: r, i + 1, h => by
  have := zBq r i (by simpa using h)
  exact (this.cons x).trans (List.Perm.swap _ _ _)
theorem zIC (k : Str) (hk0 : 0 < k.length) (hk : k.length ≤ 12) :
  K5 (T := {L : List Str // (∀ s, s ∈ L ↔ Y0 k s) ∧ L.length ≤ 2000000000}) prog 115 [sV k] [] (fun L => .own 0 1 0 L.1.length) (fun L => [.row 1 (L.1.map sV)]) := by
 have hca : p7 prog 140 = true := by kernel_rfl
 have sc : zMf prog 140 (zBi (k.take 1) 1) (U1 k []) (.tup []) (U1 k (U2 k)) := zDX k (by omega) k.length [] (k.take 1) 1 (by omega) (by simp; omega) (by omega) (fun x hx => by cases hx)
 have hmem := fun x => zCr (k := k) (x := x)
 have hsm : SmallL (U2 k) := SmallL.go (fun x hx => by cases hx) (by omega) (by omega)
 have hML := zBk hk hk0
 have hmt : (zNG prog 155).isSome = true := by kernel_rfl
 generalize U2 k = M at *
 refine zIf func115 rfl (fun E hE => ?_); simp only [go_sem, ntmps115]
 repeat' (first | (refine Qr rfl ?_; try intro _ hK; try simp only [go_sem, *]) | (refine Qi rfl rfl rfl rfl ?_ ?_ <;> (intro hb; (try intro _ hK); have hc := hb; try simp only [go_sem] at hc; simp only [go_sem, *])) | refine Qh rfl ?_ | refine Qd rfl (by kernel_rfl) ?_ | (refine Qc rfl rfl ?_ ?_ <;> (intro hb; have hc := hb; try simp only [go_sem] at hc)) | refine q8 rfl ?_ | (refine Qb ?_ ?_; focus kernel_rfl) | ((with_reducible apply And.intro); focus omega) | (refine q7 hK ?_; clear hK; simp only [go_sem, *]) | simp only [q6, z8, go_sem, *])
 refine t8 [0, 2, 3, 1] sc ?_
 simp only [go_sem, *]
 refine q7 hK ?_
 clear hK
 simp only [go_sem, *]
 repeat' (first | (refine Qr (ops := _ :: _) rfl ?_; try intro _ hK; try simp only [go_sem, *]) | (refine Qi rfl rfl rfl rfl ?_ ?_ <;> (intro hb; (try intro _ hK); have hc := hb; try simp only [go_sem] at hc; simp only [go_sem, *])) | (refine Qb ?_ ?_; focus kernel_rfl) | ((with_reducible apply And.intro); focus omega) | (refine q7 hK ?_; clear hK; simp only [go_sem, *]) | simp only [q6, z8, go_sem, *])
 refine o0 ?_
 refine Qb ?_ ?_
 focus kernel_rfl
 try simp only [q6, z8, go_sem, *]
 refine R8 (N := 24) (env := [(3, .ptr 0 0)]) (As := [.box [.fmap (M.map zMo) (M.map fun _ => bV true)]]) [some 2] [1] (by (simp only [Weak, go_sem, List.map_append, List.map_set, *] <;> (try simp (disch := omega) only [r7]) <;> (try simp) <;> (try omega))) ?_
 repeat' (first | (refine Qr rfl ?_; try intro _ hK; try simp only [go_sem, *]) | (refine Qi rfl rfl rfl rfl ?_ ?_ <;> (intro hb; (try intro _ hK); have hc := hb; try simp only [go_sem] at hc; simp only [go_sem, *])) | refine Qh rfl ?_ | refine Qd rfl (by kernel_rfl) ?_ | (refine Qc rfl rfl ?_ ?_ <;> (intro hb; have hc := hb; try simp only [go_sem] at hc)) | refine q8 rfl ?_ | (refine Qb ?_ ?_; focus kernel_rfl) | ((with_reducible apply And.intro); focus omega) | (refine q7 hK ?_; clear hK; simp only [go_sem, *]) | simp only [q6, z8, go_sem, *])
 clear sc hsm
 refine N7 rfl (M.length) (fun i (cur : Option (Value × AV)) (S : List Str × List Str) => S.1.length + i = M.length ∧ S.2.length = i ∧ ∀ x, (x ∈ S.2 ∨ x ∈ S.1) ↔ x ∈ M) 24 (fun i cur S => [(14, .ptr 0 0), (5, .own 1 1 0 i)]) (fun i cur S => [.iter cur (S.1.map zMo) (S.1.map fun _ => bV true), .row 1 (S.2.map sV)]) [some 1, none] [] (none) ((M, [])) (by exact ⟨by simp, rfl, fun x => by simp⟩) ?_; intro i cur S hi hP
 obtain ⟨rem, acc⟩ := S
 simp only at hP ⊢
 refine C7 rfl ?_
 refine zHV (o := 0) rfl rfl rfl rfl rfl rfl rfl cur (rem.map zMo) (rem.map fun _ => bV true) (by simp only [go_sem]) (by simp only [go_sem]) (show (15 : Nat) < 24 by decide) (show (16 : Nat) < 24 by decide) (fun hk0 _ => ?_) (fun r hr1 hr2 => ?_)
 ·obtain rfl : rem = [] := by simpa using hk0
  obtain ⟨h1, h2, h3⟩ := hP
  have hL : ∀ s, s ∈ acc ↔ Y0 k s := fun s => by rw [← hmem, ← h3]; simp
  have hLl : acc.length ≤ 2000000000 := by simp only [List.length_nil] at h1; omega
  clear hmem h3
  simp only [go_sem]
  repeat' (first | (refine Qr rfl ?_; try intro _ hK; try simp only [go_sem, *]) | (refine Qi rfl rfl rfl rfl ?_ ?_ <;> (intro hb; (try intro _ hK); have hc := hb; try simp only [go_sem] at hc; simp only [go_sem, *])) | refine Qh rfl ?_ | refine Qd rfl (by kernel_rfl) ?_ | (refine Qc rfl rfl ?_ ?_ <;> (intro hb; have hc := hb; try simp only [go_sem] at hc)) | refine q8 rfl ?_ | (refine Qb ?_ ?_; focus kernel_rfl) | ((with_reducible apply And.intro); focus omega) | (refine q7 hK ?_; clear hK; simp only [go_sem, *]) | simp only [q6, z8, go_sem, *])
  all_goals try contradiction
  refine ⟨⟨acc, hL, hLl⟩, [_], [some 1], [], ⟨rfl, trivial⟩, ?_⟩
  simp only [go_sem, *]
 ·have hr : r < rem.length := by simpa using hr1
  have e1 : (rem.map zMo)[r] = zMo rem[r] := by simp
  have e2 : (rem.map fun _ => bV true)[r] = bV true := by simp
  have e3 : (rem.map zMo).eraseIdx r = (rem.eraseIdx r).map zMo := (zAe zMo rem r).symm
  have e4 : (rem.map fun _ => bV true).eraseIdx r = (rem.eraseIdx r).map fun _ => bV true := (zAe _ rem r).symm
  rw [e1, e2, e3, e4]
  have hq : (rem[r] :: rem.eraseIdx r).Perm rem := (zBq rem r hr).symm
  have hel : (rem.eraseIdx r).length = rem.length - 1 := List.length_eraseIdx_of_lt hr
  clear e1 e2 e3 e4
  generalize rem.eraseIdx r = rem' at *
  generalize rem[r] = x at *
  obtain ⟨h1, h2, h3⟩ := hP
  have hP2 : rem'.length + (i + 1) = M.length ∧ (acc ++ [x]).length = i + 1 ∧ ∀ z, (z ∈ acc ++ [x] ∨ z ∈ rem') ↔ z ∈ M := ⟨by omega, by simp [h2], fun z => by
   rw [← h3, ← hq.mem_iff]; simp [or_assoc]⟩
  have hil : i < M.length := by omega
  clear hmem h1 h3 hq hel hr hr1 hr2
  simp only [go_sem]
  repeat' (first | (refine Qr rfl ?_; try intro _ hK; try simp only [go_sem, *]) | (refine Qi rfl rfl rfl rfl ?_ ?_ <;> (intro hb; (try intro _ hK); have hc := hb; try simp only [go_sem] at hc; simp only [go_sem, *])) | refine Qh rfl ?_ | refine Qd rfl (by kernel_rfl) ?_ | (refine Qc rfl rfl ?_ ?_ <;> (intro hb; have hc := hb; try simp only [go_sem] at hc)) | refine q8 rfl ?_ | (refine Qb ?_ ?_; focus kernel_rfl) | ((with_reducible apply And.intro); focus omega) | (refine q7 hK ?_; clear hK; simp only [go_sem, *]) | simp only [q6, z8, go_sem, *])
  all_goals try contradiction
  exact c6 (i' := i + 1) [some 0, some 3] [] ((some (zMo x, bV true))) ((rem', acc ++ [x])) (by exact hP2)
end Go.Abs

namespace Go.Abs
open Go Go.Proofs Tryz
attribute [local irreducible] y6 Hold x5
def zN1 : Bool → Value
 | true => .func (.func 80) #[] #[]
 | false => .func (.func 83) #[] #[]
abbrev zNA (up : Bool) : AV := .raw (zN1 up)
def zNi (up : Bool) (a b : Nat) : Int := if up = true then (a : Int) - b else (b : Int) - a
theorem zEh (up : Bool) (a b : Str) : zMl up a b = orI (zNi up a.length b.length) (zMj a b) := rfl
theorem zIT (a b : Nat) (ha : a ≤ 1000) (hb1 : b ≤ 1000) : zMf prog 80 [iV a, iV b] [] (iV ((a : Int) - b)) [] := by
 have hw : IntKind.i64.wrap ((a : Int) - b) = (a : Int) - b := wrap_i64 (by omega) (by omega)
 refine q9 func80 rfl (fun E hE => ?_); simp only [go_sem, ntmps80]
 repeat' (first | (refine Qr rfl ?_; try intro _ hK; try simp only [go_sem, *]) | refine Qh rfl ?_ | (refine Qc rfl rfl ?_ ?_ <;> (intro hb; have hc := hb; try simp only [go_sem] at hc)) | refine q8 rfl ?_ | ((with_reducible apply And.intro); focus omega) | (refine q7 hK ?_; clear hK; simp only [go_sem, *]) | simp only [q6, z8, go_sem, *])
 (refine ⟨[_], [], [], ⟨rfl, trivial⟩, ?_⟩; simp only [go_sem, *])
theorem zIS (a b : Nat) (ha : a ≤ 1000) (hb1 : b ≤ 1000) : zMf prog 83 [iV a, iV b] [] (iV ((b : Int) - a)) [] := by
 have hw : IntKind.i64.wrap ((b : Int) - a) = (b : Int) - a := wrap_i64 (by omega) (by omega)
 refine q9 func83 rfl (fun E hE => ?_); simp only [go_sem, ntmps83]
 repeat' (first | (refine Qr rfl ?_; try intro _ hK; try simp only [go_sem, *]) | refine Qh rfl ?_ | (refine Qc rfl rfl ?_ ?_ <;> (intro hb; have hc := hb; try simp only [go_sem] at hc)) | refine q8 rfl ?_ | ((with_reducible apply And.intro); focus omega) | (refine q7 hK ?_; clear hK; simp only [go_sem, *]) | simp only [q6, z8, go_sem, *])
 (refine ⟨[_], [], [], ⟨rfl, trivial⟩, ?_⟩; simp only [go_sem, *])
theorem zIB (up : Bool) (a b : Str) (ha : a.length ≤ 1000) (hb1 : b.length ≤ 1000) : zMf prog 118 [sV a, sV b, .ptr 0 0] [.box [zNA up]] (iV (zMl up a b)) [.box [zNA up]] := by
 have s1 := zIT a.length b.length ha hb1
 have s2 := zIS a.length b.length ha hb1
 have s3 := zDR a b
 have so := zDU [zNi up a.length b.length, zMj a b] (by simp)
 rw [zC0] at so
 rw [zEh]
 have hca : p7 prog 80 = true := by kernel_rfl
 have hcb : p7 prog 83 = true := by kernel_rfl
 cases up
 ·have e : zNi false a.length b.length = (b.length : Int) - a.length := rfl
  have ex : zNA false = .raw (.func (.func 83) #[] #[]) := rfl
  rw [e] at so ⊢
  rw [ex]
  generalize (b.length : Int) - a.length = n at *
  generalize zMj a b = c at *
  generalize orI n c = r at *
  clear e ex s1
  refine q9 func118 rfl (fun E hE => ?_); simp only [go_sem, ntmps118]
  repeat' (first | (refine Qr rfl ?_; try intro _ hK; try simp only [go_sem, *]) | refine Qh rfl ?_ | (refine Qc rfl rfl ?_ ?_ <;> (intro hb; have hc := hb; try simp only [go_sem] at hc)) | refine q8 rfl ?_ | (refine p9 (s2) ?_ ?_; (focus (simp only [go_sem, *]; done)); simp only [go_sem, *]) | (refine p9 (s3) ?_ ?_; (focus (simp only [go_sem, *]; done)); simp only [go_sem, *]) | ((with_reducible apply And.intro); focus omega) | (refine q7 hK ?_; clear hK; simp only [go_sem, *]) | simp only [q6, z8, go_sem, *])
  (refine V9 [1] (so) (by simp only [go_sem, *]) (.raw _) ?_; simp only [go_sem, *])
  repeat' (first | (refine Qr rfl ?_; try intro _ hK; try simp only [go_sem, *]) | refine Qh rfl ?_ | (refine Qc rfl rfl ?_ ?_ <;> (intro hb; have hc := hb; try simp only [go_sem] at hc)) | refine q8 rfl ?_ | ((with_reducible apply And.intro); focus omega) | (refine q7 hK ?_; clear hK; simp only [go_sem, *]) | simp only [q6, z8, go_sem, *])
  refine ⟨[_], [some 0], [], ⟨rfl, trivial⟩, ?_⟩
  simp only [go_sem, *]
 ·have e : zNi true a.length b.length = (a.length : Int) - b.length := rfl
  have ex : zNA true = .raw (.func (.func 80) #[] #[]) := rfl
  rw [e] at so ⊢
  rw [ex]
  generalize (a.length : Int) - b.length = n at *
  generalize zMj a b = c at *
  generalize orI n c = r at *
  clear e ex s2
  refine q9 func118 rfl (fun E hE => ?_); simp only [go_sem, ntmps118]
  repeat' (first | (refine Qr rfl ?_; try intro _ hK; try simp only [go_sem, *]) | refine Qh rfl ?_ | (refine Qc rfl rfl ?_ ?_ <;> (intro hb; have hc := hb; try simp only [go_sem] at hc)) | refine q8 rfl ?_ | (refine p9 (s1) ?_ ?_; (focus (simp only [go_sem, *]; done)); simp only [go_sem, *]) | (refine p9 (s3) ?_ ?_; (focus (simp only [go_sem, *]; done)); simp only [go_sem, *]) | ((with_reducible apply And.intro); focus omega) | (refine q7 hK ?_; clear hK; simp only [go_sem, *]) | simp only [q6, z8, go_sem, *])
  (refine V9 [1] (so) (by simp only [go_sem, *]) (.raw _) ?_; simp only [go_sem, *])
  repeat' (first | (refine Qr rfl ?_; try intro _ hK; try simp only [go_sem, *]) | refine Qh rfl ?_ | (refine Qc rfl rfl ?_ ?_ <;> (intro hb; have hc := hb; try simp only [go_sem] at hc)) | refine q8 rfl ?_ | ((with_reducible apply And.intro); focus omega) | (refine q7 hK ?_; clear hK; simp only [go_sem, *]) | simp only [q6, z8, go_sem, *])
  refine ⟨[_], [some 0], [], ⟨rfl, trivial⟩, ?_⟩
  simp only [go_sem, *]
noncomputable def zBw : Code := sub [0, 1, 0, 1, 1, 1] (V8 Tryz.f116)
noncomputable def N2 (fn : FuncId) : LoopK := ⟨fn, #[10], L2 zBw, L3 zBw, 23⟩
def zBU : Option Str → AV
 | none => sV []
 | some c => sV c
@[go_sem] theorem zJt : zBU none = .raw (.string ⟨#[]⟩) := rfl
@[go_sem] theorem zJu (c : Str) : zBU (some c) = sV c := rfl
def Z6 : Option Str → Value
 | none => .string ⟨#[]⟩
 | some c => .string ⟨c.toArray⟩
abbrev zEs : AV := .fn 118 [.ptr 4 0]
noncomputable abbrev a6 (fn : FuncId) (up : Bool) (B : Option Str) : List AObj := [.loopo (N2 fn) [(3, .ptr 1 0), (6, .ptr 2 0), (7, .ptr 3 0)] (some none), .box [zEs], .box [.raw (Z6 B)], .box [bV B.isSome], .box [zNA up]]
theorem zJI (fn : FuncId) (up : Bool) (c : Str) : e9 prog [sV c] (a6 fn up none) (bV true) (a6 fn up (some c)) := by
 simp only [a6, Z6, Option.isSome_none, Option.isSome_some]
 refine P9 (L := N2 fn) (env := [(3, .ptr 1 0), (6, .ptr 2 0), (7, .ptr 3 0)]) (j := none) rfl rfl (fun E l hE => ?_)
 refine j1 rfl ?_
 simp only [N2, c8, go_sem]
 repeat' (first | (refine Qr (ops := _ :: _) rfl ?_; try intro _ hK; try simp only [go_sem, *]) | (refine Qi rfl rfl rfl rfl ?_ ?_ <;> (intro hb; (try intro _ hK); have hc := hb; try simp only [go_sem] at hc; simp only [go_sem, *])) | (refine Qb ?_ ?_; focus kernel_rfl) | ((with_reducible apply And.intro); focus omega) | (refine q7 hK ?_; clear hK; simp only [go_sem, *]) | simp only [q6, z8, go_sem, *])
 refine o0 ?_
 refine ⟨by simp only [go_sem], ?_⟩
 refine P2 (id := 1) rfl ?_
 refine Q8 rfl ?_
 refine j1 rfl ?_
 simp only [go_sem]
 repeat' (first | (refine Qr (ops := _ :: _) rfl ?_; try intro _ hK; try simp only [go_sem, *]) | (refine Qi rfl rfl rfl rfl ?_ ?_ <;> (intro hb; (try intro _ hK); have hc := hb; try simp only [go_sem] at hc; simp only [go_sem, *])) | (refine Qb ?_ ?_; focus kernel_rfl) | ((with_reducible apply And.intro); focus omega) | (refine q7 hK ?_; clear hK; simp only [go_sem, *]) | simp only [q6, z8, go_sem, *])
 refine o0 ?_
 refine T4 (t := true) rfl (by simp only [go_sem]) (fun _ => ?_) (fun h => by cases h)
 refine j1 rfl ?_
 simp only [go_sem]
 repeat' (first | (refine Qr (ops := _ :: _) rfl ?_; try intro _ hK; try simp only [go_sem, *]) | (refine Qi rfl rfl rfl rfl ?_ ?_ <;> (intro hb; (try intro _ hK); have hc := hb; try simp only [go_sem] at hc; simp only [go_sem, *])) | (refine Qb ?_ ?_; focus kernel_rfl) | ((with_reducible apply And.intro); focus omega) | (refine q7 hK ?_; clear hK; simp only [go_sem, *]) | simp only [q6, z8, go_sem, *])
 refine o0 ?_
 simp only [z8, go_sem]
 refine ⟨rfl, [some 0, some 1, some 2, some 3, some 4], [], ?_⟩
 simp only [go_sem, *]
theorem zJJ (fn : FuncId) (up : Bool) (b c : Str) (hb1 : b.length ≤ 1000) (hc1 : c.length ≤ 1000) : e9 prog [sV c] (a6 fn up (some b)) (bV true) (a6 fn up (some (if zMl up c b < 0 then c else b))) := by
 have hca : p7 prog 118 = true := by kernel_rfl
 have sc := zIB up c b hc1 hb1
 simp only [a6, Z6, Option.isSome_none, Option.isSome_some]
 refine P9 (L := N2 fn) (env := [(3, .ptr 1 0), (6, .ptr 2 0), (7, .ptr 3 0)]) (j := none) rfl rfl (fun E l hE => ?_)
 refine j1 rfl ?_
 simp only [N2, c8, go_sem]
 repeat' (first | (refine Qr (ops := _ :: _) rfl ?_; try intro _ hK; try simp only [go_sem, *]) | (refine Qi rfl rfl rfl rfl ?_ ?_ <;> (intro hb; (try intro _ hK); have hc := hb; try simp only [go_sem] at hc; simp only [go_sem, *])) | (refine Qb ?_ ?_; focus kernel_rfl) | ((with_reducible apply And.intro); focus omega) | (refine q7 hK ?_; clear hK; simp only [go_sem, *]) | simp only [q6, z8, go_sem, *])
 refine o0 ?_
 refine ⟨by simp only [go_sem], ?_⟩
 refine P2 (id := 1) rfl ?_
 refine Q8 rfl ?_
 refine j1 rfl ?_
 simp only [go_sem]
 repeat' (first | (refine Qr (ops := _ :: _) rfl ?_; try intro _ hK; try simp only [go_sem, *]) | (refine Qi rfl rfl rfl rfl ?_ ?_ <;> (intro hb; (try intro _ hK); have hc := hb; try simp only [go_sem] at hc; simp only [go_sem, *])) | (refine Qb ?_ ?_; focus kernel_rfl) | ((with_reducible apply And.intro); focus omega) | (refine q7 hK ?_; clear hK; simp only [go_sem, *]) | simp only [q6, z8, go_sem, *])
 refine t8 [4] sc ?_
 simp only [go_sem]
 repeat' (first | (refine Qr (ops := _ :: _) rfl ?_; try intro _ hK; try simp only [go_sem, *]) | (refine Qi rfl rfl rfl rfl ?_ ?_ <;> (intro hb; (try intro _ hK); have hc := hb; try simp only [go_sem] at hc; simp only [go_sem, *])) | (refine Qb ?_ ?_; focus kernel_rfl) | ((with_reducible apply And.intro); focus omega) | (refine q7 hK ?_; clear hK; simp only [go_sem, *]) | simp only [q6, z8, go_sem, *])
 refine o0 ?_
 refine T4 (t := decide (zMl up c b < 0)) rfl (by simp only [go_sem]) (fun h => ?_) (fun h => ?_)
 ·rw [if_pos (by simpa using h)]
  refine j1 rfl ?_
  simp only [go_sem]
  repeat' (first | (refine Qr (ops := _ :: _) rfl ?_; try intro _ hK; try simp only [go_sem, *]) | (refine Qi rfl rfl rfl rfl ?_ ?_ <;> (intro hb; (try intro _ hK); have hc := hb; try simp only [go_sem] at hc; simp only [go_sem, *])) | (refine Qb ?_ ?_; focus kernel_rfl) | ((with_reducible apply And.intro); focus omega) | (refine q7 hK ?_; clear hK; simp only [go_sem, *]) | simp only [q6, z8, go_sem, *])
  refine o0 ?_
  simp only [z8, go_sem]
  refine ⟨rfl, [some 0, some 1, some 2, some 3, some 4], [], ?_⟩
  simp only [go_sem, *]
 ·rw [if_neg (by simpa using h)]
  refine H5 rfl ?_
  simp only [z8, go_sem]
  refine ⟨rfl, [some 0, some 1, some 2, some 3, some 4], [], ?_⟩
  simp only [go_sem, *]
theorem zJH (fn : FuncId) (up : Bool) (B : Option Str) (c : Str) (hb1 : ∀ b, B = some b → b.length ≤ 1000) (hc1 : c.length ≤ 1000) : e9 prog [sV c] (a6 fn up B) (bV true) (a6 fn up (x7 (zMl up) B [c])) := by
 cases B with
 | none => exact zJI fn up c
 | some b =>
  have := zJJ fn up b c (hb1 b rfl) hc1
  rw [zBx]
  by_cases h : zMl up c b < 0
  ·simp only [if_pos h] at this ⊢; exact this
  ·simp only [if_neg h] at this ⊢; exact this
end Go.Abs

namespace Go.Abs
open Go Go.Proofs Tryz
attribute [local irreducible] y6 Hold x5
theorem zH7 (fn : FuncId) (up : Bool) (L : List Str) (B : Option Str) (hL : L.length ≤ 2000000000) (hs : ∀ s, s ∈ L → s.length ≤ 1000) (hB : ∀ b, B = some b → b.length ≤ 1000) :
  zMf prog 141 [.yld 0, .ptr 5 0] (a6 fn up B ++ [.box [y8 L]]) (.tup []) (a6 fn up (x7 (zMl up) B L) ++ [.box [y8 L]]) := by
 obtain ⟨T, hT⟩ : ∃ T, x7 (zMl up) B L = T := ⟨_, rfl⟩
 rw [hT]
 have h0 : x7 (zMl up) B (L.drop 0) = T := hT
 clear hT
 simp only [a6, List.cons_append, List.nil_append]
 refine q9 func141 rfl (fun E hE => ?_); simp only [go_sem, ntmps141]
 repeat' (first | (refine Qr rfl ?_; try intro _ hK; try simp only [go_sem, *]) | refine Qh rfl ?_ | (refine Qc rfl rfl ?_ ?_ <;> (intro hb; have hc := hb; try simp only [go_sem] at hc)) | refine q8 rfl ?_ | ((with_reducible apply And.intro); focus omega) | (refine q7 hK ?_; clear hK; simp only [go_sem, *]) | simp only [q6, z8, go_sem, *])
 refine a7 rfl (L.length) (fun i (Z : Option Str) => x7 (zMl up) Z (L.drop i) = T ∧ ∀ b, Z = some b → b.length ≤ 1000) 16 (fun i Z => [(7, iV i), (6, iV L.length), (5, y8 L), (0, .yld 0)]) (fun i Z => a6 fn up Z ++ [.box [y8 L]]) [some 0, some 1, some 2, some 3, some 4, some 5] [] (B) (by exact ⟨h0, hB⟩) ?_; intro i Z hi hP
 obtain ⟨hP, hZ⟩ := hP
 by_cases hi2 : i < L.length
 ·have hcl := hs _ (j9 hi2)
  rw [j4 hi2] at hP
  have hP : x7 (zMl up) (x7 (zMl up) Z [L.getD i default]) (L.drop (i + 1)) = T := by rw [← hP, ← J4]; rfl
  have hy := zJH fn up Z (L.getD i default) hZ hcl
  have hZ2 : ∀ b, x7 (zMl up) Z [L.getD i default] = some b → b.length ≤ 1000 := fun b hb2 => by
   rcases J5 hb2 with h | h
   ·exact hZ b h
   ·rw [List.mem_singleton.1 h]; exact hcl
  generalize x7 (zMl up) Z [L.getD i default] = Z2 at *
  clear h0 hB hs hZ hcl
  repeat' (first | ((refine G0 2 rfl rfl rfl ?_; simp only [List.take_succ_cons, List.take_zero, List.drop_succ_cons, List.drop_zero])) | (refine Qr rfl ?_; try intro _ hK; try simp only [go_sem, *]) | refine Qh rfl ?_ | (refine Qc rfl rfl ?_ ?_ <;> (intro hb; have hc := hb; try simp only [go_sem] at hc)) | refine q8 rfl ?_ | ((with_reducible apply And.intro); focus omega) | (refine q7 hK ?_; clear hK; simp only [go_sem, *]) | simp only [q6, z8, go_sem, *])
  all_goals first | contradiction | omega | skip
  refine zCB rfl ?_
  refine B6 [0, 1, 2, 3, 4] [] hy rfl rfl (by simp) (by simp only [go_sem]) (by simp only [go_sem]) (by simp) (.inl rfl) (by simp [go_sem]) (by simp [go_sem]) ?_
  simp only [go_sem]
  repeat' (first | (refine Qr rfl ?_; try intro _ hK; try simp only [go_sem, *]) | refine Qh rfl ?_ | (refine Qc rfl rfl ?_ ?_ <;> (intro hb; have hc := hb; try simp only [go_sem] at hc)) | refine q8 rfl ?_ | ((with_reducible apply And.intro); focus omega) | (refine q7 hK ?_; clear hK; simp only [go_sem, *]) | simp only [q6, z8, go_sem, *])
  all_goals first | contradiction | omega | skip
  exact n0 (i' := i + 1) [some 0, some 1, some 2, some 3, some 4, some 5] [] (Z2) (by exact ⟨hP, hZ2⟩)
 ·rw [d7 (by omega)] at hP
  have hP : Z = T := by cases Z <;> exact hP
  subst hP
  clear h0 hB hs hZ
  repeat' (first | (refine Qr rfl ?_; try intro _ hK; try simp only [go_sem, *]) | refine Qh rfl ?_ | (refine Qc rfl rfl ?_ ?_ <;> (intro hb; have hc := hb; try simp only [go_sem] at hc)) | refine q8 rfl ?_ | ((with_reducible apply And.intro); focus omega) | (refine q7 hK ?_; clear hK; simp only [go_sem, *]) | simp only [q6, z8, go_sem, *])
  all_goals first | contradiction | omega | skip
  refine ⟨[], [some 0, some 1, some 2, some 3, some 4, some 5], [], trivial, ?_⟩
  simp only [go_sem, f9, *]
theorem zH6 (L : List Str) : zMf prog 117 [y8 L] [] (.fn 141 [.ptr 0 0]) [.box [y8 L]] := by
 refine q9 func117 rfl (fun E hE => ?_); simp only [go_sem, ntmps117]
 repeat' (first | (refine Qr rfl ?_; try intro _ hK; try simp only [go_sem, *]) | refine Qh rfl ?_ | (refine Qc rfl rfl ?_ ?_ <;> (intro hb; have hc := hb; try simp only [go_sem] at hc)) | refine q8 rfl ?_ | ((with_reducible apply And.intro); focus omega) | (refine q7 hK ?_; clear hK; simp only [go_sem, *]) | simp only [q6, z8, go_sem, *])
 refine ⟨[_], [some 0], [], ⟨rfl, trivial⟩, ?_⟩
 simp only [go_sem, *]
theorem zIE (up : Bool) (L : List Str) (hL : L.length ≤ 2000000000) (hs : ∀ s, s ∈ L → s.length ≤ 1000) :
  zMf prog 116 [.fn 141 [.ptr 0 0], .fn 118 [.ptr 1 0]] [.box [y8 L], .box [zNA up]] (.tup [.raw (Z6 (b9 (zMl up) L)), bV (b9 (zMl up) L).isSome]) [.box [y8 L], .box [zNA up]] := by
 have s1 := fun fn => zH7 fn up L none hL hs (fun b h => by cases h)
 have e : b9 (zMl up) L = x7 (zMl up) none L := rfl
 rw [e]
 generalize x7 (zMl up) none L = B at *
 clear hs e
 simp only [a6, List.cons_append, List.nil_append, show Z6 none = .string ⟨#[]⟩ from rfl, Option.isSome_none] at s1
 refine q9 func116 rfl (fun E hE => ?_); simp only [go_sem, ntmps116]
 repeat' (first | (refine Qr rfl ?_; try intro _ hK; try simp only [go_sem, *]) | refine Qh rfl ?_ | refine Qd rfl (by kernel_rfl) ?_ | (refine Qc rfl rfl ?_ ?_ <;> (intro hb; have hc := hb; try simp only [go_sem] at hc)) | refine q8 rfl ?_ | (refine Qb ?_ ?_; focus kernel_rfl) | ((with_reducible apply And.intro); focus omega) | (refine q7 hK ?_; clear hK; simp only [go_sem, *]) | simp only [q6, z8, go_sem, *])
 refine R8 (N := 23) (env := [(9, .fn 141 [.ptr 0 0]), (3, .ptr 2 0), (6, .ptr 3 0), (7, .ptr 4 0)]) (As := [.box [y8 L], .box [zNA up], .box [.fn 118 [.ptr 1 0]], .box [sV []], .box [bV false]]) [some 0, some 1, some 2, some 3, some 4] [] (by (simp only [Weak, go_sem, List.map_append, List.map_set, *] <;> (try simp (disch := omega) only [r7]) <;> (try simp) <;> (try omega))) ?_
 refine C6 (f := 141) (caps := [.ptr 0 0]) rfl (by simp only [go_sem]) (by kernel_rfl) (nx := 5) (by simp only [go_sem]) (fun fn => ⟨6, ?_⟩)
 refine p6 [5, 2, 3, 4, 1, 0] [] (s1 fn) (by simp) (by simp only [go_sem]) ?_ (by simp) (.inl rfl) (by simp [go_sem]) (by simp [go_sem]) ?_
 ·simp only [go_sem, *]
  first | rfl | exact ⟨rfl, rfl⟩
 ·simp only [go_sem, *]
  refine ⟨N2 fn, [(3, .ptr 2 0), (6, .ptr 3 0), (7, .ptr 4 0)], none, by simp only [go_sem], ?_⟩
  simp only [go_sem]
  repeat' (first | (refine Qr rfl ?_; try intro _ hK; try simp only [go_sem, *]) | refine Qh rfl ?_ | refine Qd rfl (by kernel_rfl) ?_ | (refine Qc rfl rfl ?_ ?_ <;> (intro hb; have hc := hb; try simp only [go_sem] at hc)) | refine q8 rfl ?_ | (refine Qb ?_ ?_; focus kernel_rfl) | ((with_reducible apply And.intro); focus omega) | (refine q7 hK ?_; clear hK; simp only [go_sem, *]) | simp only [q6, z8, go_sem, *])
  refine ⟨[_, _], [some 0, some 1], [], ⟨rfl, rfl, trivial⟩, ?_⟩
  simp only [go_sem, *]
end Go.Abs

namespace Go.Abs
open Go Go.Proofs Tryz
attribute [local irreducible] y6 Hold x5
def okC (l : List Str) (own : Str) (most : Int) (s : Str) : Bool := decide ((s.length : Int) ≤ most) && !l9 s l own
theorem zDW (l : List Str) (own : Str) (most : Int) (up : Bool) (hv : ∀ s, s ∈ l → ValidN s) (hl : l.length ≤ 1000) (ho0 : 0 < own.length) (ho : own.length ≤ 12) (_hm : -1000 ≤ most ∧ most ≤ 1000) :
  zMf prog 79 [y8 l, sV own, iV most, zNA up] [] (.tup [.raw (Z6 (zMr l own most up)), bV (zMr l own most up).isSome]) [] := by
 have hca : p7 prog 114 = true := by kernel_rfl
 have hcb : p7 prog 115 = true := by kernel_rfl
 have sc := zIC own ho0 ho
 have sm := fun k h0 h1 => zIR k own l h0 h1 hv hl
 refine q9 func79 rfl (fun E hE => ?_); simp only [go_sem, ntmps79]
 repeat' (first | ((refine zHQ 1 rfl rfl rfl hcb rfl ?_; simp only [List.take_succ_cons, List.take_zero, List.drop_succ_cons, List.drop_zero])) | (refine Qr rfl ?_; try intro _ hK; try simp only [go_sem, *]) | (refine Qi rfl rfl rfl rfl ?_ ?_ <;> (intro hb; (try intro _ hK); have hc := hb; try simp only [go_sem] at hc; simp only [go_sem, *])) | refine Qh rfl ?_ | (refine Qc rfl rfl ?_ ?_ <;> (intro hb; have hc := hb; try simp only [go_sem] at hc)) | refine q8 rfl ?_ | ((with_reducible apply And.intro); focus omega) | (refine q7 hK ?_; clear hK; simp only [go_sem, *]) | simp only [q6, z8, go_sem, *])
 refine zEE ⟨U2 own, fun s => zCr, zBk ho ho0⟩ [] [] sc (by simp) (by simp only [go_sem]) trivial (by simp) (.inl rfl) (by simp [go_sem]) (by simp [go_sem]) (fun L => ?_)
 obtain ⟨L, hLm, hLl⟩ := L
 simp only [go_sem]
 clear sc
 obtain ⟨F, hF⟩ : ∃ F, L.filter (okC l own most) = F := ⟨_, rfl⟩
 have hcut : b9 (zMl up) F = zMr l own most up := zEu (fun s => by
  rw [← hF, List.mem_filter, hLm]
  unfold okC S4
  simp only [Bool.and_eq_true, decide_eq_true_eq, Bool.not_eq_true'])
 have hFs : ∀ s, s ∈ F → s.length ≤ 1000 := fun s hs => by
  rw [← hF, List.mem_filter, hLm] at hs
  obtain ⟨⟨t, _, _, h⟩, _⟩ := hs
  omega
 have h0 : [] ++ (L.drop 0).filter (okC l own most) = F := hF
 rw [← hcut]
 have hFl : F.length ≤ 2000000000 := by rw [← hF]; exact Nat.le_trans (List.length_filter_le _ _) hLl
 have hLs : ∀ s, s ∈ L → 0 < s.length ∧ s.length ≤ 12 := fun s hs => by
  have h := (hLm s).1 hs
  have h1 := zAS h
  obtain ⟨t, _, _, h⟩ := h
  omega
 clear hF hcut hLm
 repeat' (first | (refine Qr rfl ?_; try intro _ hK; try simp only [go_sem, *]) | (refine Qi rfl rfl rfl rfl ?_ ?_ <;> (intro hb; (try intro _ hK); have hc := hb; try simp only [go_sem] at hc; simp only [go_sem, *])) | refine Qh rfl ?_ | (refine Qc rfl rfl ?_ ?_ <;> (intro hb; have hc := hb; try simp only [go_sem] at hc)) | refine q8 rfl ?_ | ((with_reducible apply And.intro); focus omega) | (refine q7 hK ?_; clear hK; simp only [go_sem, *]) | simp only [q6, z8, go_sem, *])
 refine a7 rfl (L.length) (fun i (acc : List Str) => acc ++ (L.drop i).filter (okC l own most) = F) 43 (fun i acc => [(17, iV i), (16, iV L.length), (15, .own 1 1 0 L.length), (10, .own 2 1 0 acc.length), (11, fnV 114), (7, .ptr 0 0), (0, y8 l), (1, sV own), (2, iV most)]) (fun i acc => [.box [zNA up], .row 1 (L.map sV), .row 1 (acc.map sV)]) [some 0, some 1, none] [] ([]) (by exact h0) ?_; intro i acc hi hP
 clear h0
 by_cases hi2 : i < L.length
 ·obtain ⟨hx0, hx1⟩ := hLs _ (j9 hi2)
  have s1 := sm _ hx0 (by omega)
  have hal : acc.length ≤ 2000000000 := by
   have := congrArg List.length hP
   rw [List.length_append] at this
   omega
  rw [j4 hi2, List.filter_cons, show okC l own most (L.getD i default) = (decide (((L.getD i default).length : Int) ≤ most) && !l9 (L.getD i default) l own) from rfl] at hP
  generalize hxe : L.getD i default = x at *
  generalize l9 x l own = b at *
  clear sm hLs hv
  by_cases q : (x.length : Int) ≤ most
  ·cases b
   ·rw [decide_eq_true q] at hP
    have hP : (acc ++ [x]) ++ (L.drop (i + 1)).filter (okC l own most) = F := by rw [← hP]; simp
    repeat' (first | (refine Qr rfl ?_; try intro _ hK; try simp only [go_sem, *]) | (refine Qi rfl rfl rfl rfl ?_ ?_ <;> (intro hb; (try intro _ hK); have hc := hb; try simp only [go_sem] at hc; simp only [go_sem, *])) | refine Qh rfl ?_ | (refine Qc rfl rfl ?_ ?_ <;> (intro hb; have hc := hb; try simp only [go_sem] at hc)) | refine q8 rfl ?_ | (refine y5 (s1) ?_; simp only [go_sem, *]) | ((with_reducible apply And.intro); focus omega) | (refine q7 hK ?_; clear hK; simp only [go_sem, *]) | simp only [q6, z8, go_sem, *])
    all_goals first | contradiction | omega | skip
    exact n0 (i' := i + 1) [some 0, some 1, some 4] [] (acc ++ [x]) (by exact hP)
   ·rw [decide_eq_true q] at hP
    have hP : acc ++ (L.drop (i + 1)).filter (okC l own most) = F := hP
    repeat' (first | (refine Qr rfl ?_; try intro _ hK; try simp only [go_sem, *]) | (refine Qi rfl rfl rfl rfl ?_ ?_ <;> (intro hb; (try intro _ hK); have hc := hb; try simp only [go_sem] at hc; simp only [go_sem, *])) | refine Qh rfl ?_ | (refine Qc rfl rfl ?_ ?_ <;> (intro hb; have hc := hb; try simp only [go_sem] at hc)) | refine q8 rfl ?_ | (refine y5 (s1) ?_; simp only [go_sem, *]) | ((with_reducible apply And.intro); focus omega) | (refine q7 hK ?_; clear hK; simp only [go_sem, *]) | simp only [q6, z8, go_sem, *])
    all_goals first | contradiction | omega | skip
    exact n0 (i' := i + 1) [some 0, some 1, some 2] [] (acc) (by exact hP)
  ·rw [decide_eq_false q] at hP
   have hP : acc ++ (L.drop (i + 1)).filter (okC l own most) = F := hP
   repeat' (first | (refine Qr rfl ?_; try intro _ hK; try simp only [go_sem, *]) | (refine Qi rfl rfl rfl rfl ?_ ?_ <;> (intro hb; (try intro _ hK); have hc := hb; try simp only [go_sem] at hc; simp only [go_sem, *])) | refine Qh rfl ?_ | (refine Qc rfl rfl ?_ ?_ <;> (intro hb; have hc := hb; try simp only [go_sem] at hc)) | refine q8 rfl ?_ | (refine y5 (s1) ?_; simp only [go_sem, *]) | ((with_reducible apply And.intro); focus omega) | (refine q7 hK ?_; clear hK; simp only [go_sem, *]) | simp only [q6, z8, go_sem, *])
   all_goals first | contradiction | omega | skip
   exact n0 (i' := i + 1) [some 0, some 1, some 2] [] (acc) (by exact hP)
 ·rw [d7 (by omega)] at hP
  have hP : acc = F := by rw [← hP]; simp
  subst hP
  clear sm hLs hv
  have sV1 := zH6 acc
  have sF := zIE up acc hFl hFs
  generalize b9 (zMl up) acc = o at *
  clear hFs
  repeat' (first | (refine Qr rfl ?_; try intro _ hK; try simp only [go_sem, *]) | (refine Qi rfl rfl rfl rfl ?_ ?_ <;> (intro hb; (try intro _ hK); have hc := hb; try simp only [go_sem] at hc; simp only [go_sem, *])) | refine Qh rfl ?_ | (refine Qc rfl rfl ?_ ?_ <;> (intro hb; have hc := hb; try simp only [go_sem] at hc)) | refine q8 rfl ?_ | ((with_reducible apply And.intro); focus omega) | (refine q7 hK ?_; clear hK; simp only [go_sem, *]) | simp only [q6, z8, go_sem, *])
  all_goals first | contradiction | omega | skip
  refine Z7 [] [2] sV1 rfl (by simp only [go_sem]) (by simp) ?_ ?_ (by simp [go_sem]) (by simp [go_sem]) ?_
  ·simp only [go_sem, *]
  ·simp only [go_sem, *]
  simp only [go_sem, u5, *]
  repeat' (first | (refine Qr rfl ?_; try intro _ hK; try simp only [go_sem, *]) | (refine Qi rfl rfl rfl rfl ?_ ?_ <;> (intro hb; (try intro _ hK); have hc := hb; try simp only [go_sem] at hc; simp only [go_sem, *])) | refine Qh rfl ?_ | (refine Qc rfl rfl ?_ ?_ <;> (intro hb; have hc := hb; try simp only [go_sem] at hc)) | refine q8 rfl ?_ | ((with_reducible apply And.intro); focus omega) | (refine q7 hK ?_; clear hK; simp only [go_sem, *]) | simp only [q6, z8, go_sem, *])
  refine t8 [3, 0] sF ?_
  simp only [go_sem, *]
  repeat' (first | (refine Qr rfl ?_; try intro _ hK; try simp only [go_sem, *]) | (refine Qi rfl rfl rfl rfl ?_ ?_ <;> (intro hb; (try intro _ hK); have hc := hb; try simp only [go_sem] at hc; simp only [go_sem, *])) | refine Qh rfl ?_ | (refine Qc rfl rfl ?_ ?_ <;> (intro hb; have hc := hb; try simp only [go_sem] at hc)) | refine q8 rfl ?_ | ((with_reducible apply And.intro); focus omega) | (refine q7 hK ?_; clear hK; simp only [go_sem, *]) | simp only [q6, z8, go_sem, *])
  all_goals first | contradiction | omega | skip
  (refine ⟨[_, _], [], [], ⟨rfl, rfl, trivial⟩, ?_⟩; simp only [go_sem, *])
end Go.Abs

namespace Go.Abs
open Go Go.Proofs Tryz
attribute [local irreducible] y6 Hold x5
theorem zGF {s : Str} (v : ValidN s) : 0 < (zMh s).length ∧ (zMh s).length ≤ 12 := by
 have h := zAW v
 unfold w5 at h
 simp only [Bool.and_eq_true, decide_eq_true_eq] at h
 omega
theorem zDZ (l : List Str) (n : Int) (hl : l.length ≤ 4294967296) : zMf prog 78 [y8 l, iV n] [] (.tup [sV (if f7 l n = 0 then p5 l n else []), iV (f7 l n)]) [] := by
 have s1 := L7 l hl
 unfold f7
 by_cases q : v8 l = 0
 ·rw [if_pos q]
  rw [q] at s1
  have hv := E7 q
  by_cases q2 : n < 0 ∨ (l.length : Int) ≤ n
  ·rw [if_pos q2, if_neg (by decide)]
   clear hv
   by_cases q3 : n < 0
   ·refine q9 func78 rfl (fun E hE => ?_); simp only [go_sem, ntmps78]
    repeat' (first | (refine Qr rfl ?_; try intro _ hK; try simp only [go_sem, *]) | (refine Qi rfl rfl rfl rfl ?_ ?_ <;> (intro hb; (try intro _ hK); have hc := hb; try simp only [go_sem] at hc; simp only [go_sem, *])) | refine Qh rfl ?_ | (refine Qc rfl rfl ?_ ?_ <;> (intro hb; have hc := hb; try simp only [go_sem] at hc)) | refine q8 rfl ?_ | (refine y5 (s1) ?_; simp only [go_sem, *]) | ((with_reducible apply And.intro); focus omega) | (refine q7 hK ?_; clear hK; simp only [go_sem, *]) | simp only [q6, z8, go_sem, *])
    all_goals first | contradiction | omega | skip
    (refine ⟨[_, _], [], [], ⟨rfl, rfl, trivial⟩, ?_⟩; simp only [go_sem, *])
   ·have q4 : (l.length : Int) ≤ n := q2.resolve_left q3
    clear q2
    refine q9 func78 rfl (fun E hE => ?_); simp only [go_sem, ntmps78]
    repeat' (first | (refine Qr rfl ?_; try intro _ hK; try simp only [go_sem, *]) | (refine Qi rfl rfl rfl rfl ?_ ?_ <;> (intro hb; (try intro _ hK); have hc := hb; try simp only [go_sem] at hc; simp only [go_sem, *])) | refine Qh rfl ?_ | (refine Qc rfl rfl ?_ ?_ <;> (intro hb; have hc := hb; try simp only [go_sem] at hc)) | refine q8 rfl ?_ | (refine y5 (s1) ?_; simp only [go_sem, *]) | ((with_reducible apply And.intro); focus omega) | (refine q7 hK ?_; clear hK; simp only [go_sem, *]) | simp only [q6, z8, go_sem, *])
    all_goals first | contradiction | omega | skip
    (refine ⟨[_, _], [], [], ⟨rfl, rfl, trivial⟩, ?_⟩; simp only [go_sem, *])
  ·rw [if_neg q2, if_pos rfl]
   obtain ⟨i, rfl⟩ : ∃ i : Nat, n = i := ⟨n.toNat, by omega⟩
   have hi2 : i < l.length := by omega
   have v := hv _ (j9 hi2)
   have so := P6 _ v.form (by have := v.len; omega)
   have e : p5 l (i : Int) = zMh (l.getD i default) := rfl
   rw [e]
   generalize zMh (l.getD i default) = k at *
   clear hv e v q2
   have q3 : ¬ (i : Int) < 0 := by omega
   refine q9 func78 rfl (fun E hE => ?_); simp only [go_sem, ntmps78]
   repeat' (first | (refine Qr rfl ?_; try intro _ hK; try simp only [go_sem, *]) | (refine Qi rfl rfl rfl rfl ?_ ?_ <;> (intro hb; (try intro _ hK); have hc := hb; try simp only [go_sem] at hc; simp only [go_sem, *])) | refine Qh rfl ?_ | (refine Qc rfl rfl ?_ ?_ <;> (intro hb; have hc := hb; try simp only [go_sem] at hc)) | refine q8 rfl ?_ | ((first | refine y5 (s1) ?_ | refine y5 (so) ?_); simp only [go_sem, *]) | ((with_reducible apply And.intro); focus omega) | (refine q7 hK ?_; clear hK; simp only [go_sem, *]) | simp only [q6, z8, go_sem, *])
   all_goals first | contradiction | omega | skip
   (refine ⟨[_, _], [], [], ⟨rfl, rfl, trivial⟩, ?_⟩; simp only [go_sem, *])
 ·rw [if_neg q, if_neg q]
  generalize v8 l = e at *
  refine q9 func78 rfl (fun E hE => ?_); simp only [go_sem, ntmps78]
  repeat' (first | (refine Qr rfl ?_; try intro _ hK; try simp only [go_sem, *]) | (refine Qi rfl rfl rfl rfl ?_ ?_ <;> (intro hb; (try intro _ hK); have hc := hb; try simp only [go_sem] at hc; simp only [go_sem, *])) | refine Qh rfl ?_ | (refine Qc rfl rfl ?_ ?_ <;> (intro hb; have hc := hb; try simp only [go_sem] at hc)) | refine q8 rfl ?_ | (refine y5 (s1) ?_; simp only [go_sem, *]) | ((with_reducible apply And.intro); focus omega) | (refine q7 hK ?_; clear hK; simp only [go_sem, *]) | simp only [q6, z8, go_sem, *])
  all_goals first | contradiction | omega | skip
  (refine ⟨[_, _], [], [], ⟨rfl, rfl, trivial⟩, ?_⟩; simp only [go_sem, *])
theorem zCH {l : List Str} {n : Int} (q : f7 l n = 0) : (∀ s, s ∈ l → ValidN s) ∧ l.length ≤ 6 ∧ 0 < (p5 l n).length ∧ (p5 l n).length ≤ 12 := by
 unfold f7 at q
 by_cases a : v8 l = 0
 ·rw [if_pos a] at q
  by_cases b : n < 0 ∨ (l.length : Int) ≤ n
  ·rw [if_pos b] at q; cases q
  ·have hv := E7 a
   have v : ValidN (l.getD n.toNat default) := hv _ (j9 (by omega))
   exact ⟨hv, E6 a, zGF v⟩
 ·rw [if_neg a] at q; exact absurd q a
theorem zBj {l : List Str} {own : Str} {most : Int} {up : Bool} {s : Str} (h : zMr l own most up = some s) : s.length < own.length := by
 obtain ⟨⟨t, _, _, h⟩, _⟩ := (cutN_some.1 h).1
 exact h
theorem zH1 (l : List Str) (n : Int) (hl : l.length ≤ 4294967296) : zMf prog 29 [y8 l, iV n] [] (.tup [sV (zAy l n), iV (zAx l n)]) [] := by
 have s1 := zDZ l n hl
 unfold zAy zAx
 by_cases q : f7 l n = 0
 ·obtain ⟨hv, h6, hk0, hk1⟩ := zCH q
  rw [if_pos q] at s1
  rw [if_pos q, if_pos q]
  rw [q] at s1
  have sc : zMf prog 79 [y8 l, sV (p5 l n), iV 12, fnV 80] [] (.tup [.raw (Z6 (zMr l (p5 l n) 12 true)), bV (zMr l (p5 l n) 12 true).isSome]) [] := zDW l (p5 l n) 12 true hv (by omega) hk0 hk1 (by omega)
  have hcl := fun s => zBj (l := l) (own := p5 l n) (most := 12) (up := true) (s := s)
  generalize p5 l n = k at *
  generalize zMr l k 12 true = o at *
  clear hv q
  cases o with
  | none =>
   rw [show (none : Option Str).isSome = false from rfl] at sc ⊢
   rw [if_neg (by decide)]
   simp only [Z6, Option.map_none, Option.getD_none] at sc ⊢
   refine q9 func29 rfl (fun E hE => ?_); simp only [go_sem, ntmps29]
   repeat' (first | (refine Qr rfl ?_; try intro _ hK; try simp only [go_sem, *]) | refine Qh rfl ?_ | (refine Qc rfl rfl ?_ ?_ <;> (intro hb; have hc := hb; try simp only [go_sem] at hc)) | refine q8 rfl ?_ | ((first | refine y5 (s1) ?_ | refine y5 (sc) ?_); simp only [go_sem, *]) | ((with_reducible apply And.intro); focus omega) | (refine q7 hK ?_; clear hK; simp only [go_sem, *]) | simp only [q6, z8, go_sem, *])
   all_goals try contradiction
   (refine ⟨[_, _], [], [], ⟨rfl, rfl, trivial⟩, ?_⟩; simp only [go_sem, *])
  | some c =>
   have hc1 := hcl c rfl
   rw [show (some c : Option Str).isSome = true from rfl] at sc ⊢
   rw [if_pos rfl]
   simp only [Z6, Option.map_some, Option.getD_some, zNd] at sc ⊢
   clear hcl
   refine q9 func29 rfl (fun E hE => ?_); simp only [go_sem, ntmps29]
   repeat' (first | (refine Qr rfl ?_; try intro _ hK; try simp only [go_sem, *]) | refine Qh rfl ?_ | (refine Qc rfl rfl ?_ ?_ <;> (intro hb; have hc := hb; try simp only [go_sem] at hc)) | refine q8 rfl ?_ | ((first | refine y5 (s1) ?_ | refine y5 (sc) ?_); simp only [go_sem, *]) | ((with_reducible apply And.intro); focus omega) | (refine q7 hK ?_; clear hK; simp only [go_sem, *]) | simp only [q6, z8, go_sem, *])
   all_goals try contradiction
   (refine ⟨[_, _], [], [], ⟨rfl, rfl, trivial⟩, ?_⟩; simp only [go_sem, *])
 ·rw [if_neg q] at s1
  rw [if_neg q, if_neg q]
  generalize f7 l n = e at *
  refine q9 func29 rfl (fun E hE => ?_); simp only [go_sem, ntmps29]
  repeat' (first | (refine Qr rfl ?_; try intro _ hK; try simp only [go_sem, *]) | refine Qh rfl ?_ | (refine Qc rfl rfl ?_ ?_ <;> (intro hb; have hc := hb; try simp only [go_sem] at hc)) | refine q8 rfl ?_ | (refine y5 (s1) ?_; simp only [go_sem, *]) | ((with_reducible apply And.intro); focus omega) | (refine q7 hK ?_; clear hK; simp only [go_sem, *]) | simp only [q6, z8, go_sem, *])
  all_goals try contradiction
  (refine ⟨[_, _], [], [], ⟨rfl, rfl, trivial⟩, ?_⟩; simp only [go_sem, *])
theorem zHr (l : List Str) (n w : Int) (hl : l.length ≤ 4294967296) : zMf prog 31 [y8 l, iV n, iV w] [] (.tup [sV (zNm l n w), iV (zAH l n w)]) [] := by
 have s1 := zDZ l n hl
 unfold zNm zAH
 by_cases q : f7 l n = 0
 ·obtain ⟨hv, h6, hk0, hk1⟩ := zCH q
  rw [if_pos q] at s1
  rw [if_pos q, if_pos q]
  rw [q] at s1
  by_cases q1 : w < 1
  ·rw [if_pos q1, if_pos q1]
   clear hv q
   generalize p5 l n = k at *
   refine q9 func31 rfl (fun E hE => ?_); simp only [go_sem, ntmps31]
   repeat' (first | (refine Qr rfl ?_; try intro _ hK; try simp only [go_sem, *]) | refine Qh rfl ?_ | (refine Qc rfl rfl ?_ ?_ <;> (intro hb; have hc := hb; try simp only [go_sem] at hc)) | refine q8 rfl ?_ | (refine y5 (s1) ?_; simp only [go_sem, *]) | ((with_reducible apply And.intro); focus omega) | (refine q7 hK ?_; clear hK; simp only [go_sem, *]) | simp only [q6, z8, go_sem, *])
   all_goals try contradiction
   (refine ⟨[_, _], [], [], ⟨rfl, rfl, trivial⟩, ?_⟩; simp only [go_sem, *])
  ·rw [if_neg q1, if_neg q1]
   by_cases q2 : ((p5 l n).length : Int) ≤ w
   ·rw [if_pos q2, if_pos q2]
    clear hv q
    generalize p5 l n = k at *
    refine q9 func31 rfl (fun E hE => ?_); simp only [go_sem, ntmps31]
    repeat' (first | (refine Qr rfl ?_; try intro _ hK; try simp only [go_sem, *]) | refine Qh rfl ?_ | (refine Qc rfl rfl ?_ ?_ <;> (intro hb; have hc := hb; try simp only [go_sem] at hc)) | refine q8 rfl ?_ | (refine y5 (s1) ?_; simp only [go_sem, *]) | ((with_reducible apply And.intro); focus omega) | (refine q7 hK ?_; clear hK; simp only [go_sem, *]) | simp only [q6, z8, go_sem, *])
    all_goals try contradiction
    (refine ⟨[_, _], [], [], ⟨rfl, rfl, trivial⟩, ?_⟩; simp only [go_sem, *])
   ·rw [if_neg q2, if_neg q2]
    have hw : IntKind.i64.wrap (w - 1) = w - 1 := wrap_i64 (by omega) (by omega)
    have sc : zMf prog 79 [y8 l, sV (p5 l n), iV (w - 1), fnV 83] [] (.tup [.raw (Z6 (zMr l (p5 l n) (w - 1) false)), bV (zMr l (p5 l n) (w - 1) false).isSome]) [] := zDW l (p5 l n) (w - 1) false hv (by omega) hk0 hk1 (by omega)
    have hcl := fun s => zBj (l := l) (own := p5 l n) (most := w - 1) (up := false) (s := s)
    generalize p5 l n = k at *
    generalize zMr l k (w - 1) false = o at *
    clear hv q
    cases o with
    | none =>
     rw [show (none : Option Str).isSome = false from rfl] at sc ⊢
     rw [if_neg (by decide)]
     simp only [Z6, Option.map_none, Option.getD_none] at sc ⊢
     refine q9 func31 rfl (fun E hE => ?_); simp only [go_sem, ntmps31]
     repeat' (first | (refine Qr rfl ?_; try intro _ hK; try simp only [go_sem, *]) | refine Qh rfl ?_ | (refine Qc rfl rfl ?_ ?_ <;> (intro hb; have hc := hb; try simp only [go_sem] at hc)) | refine q8 rfl ?_ | ((first | refine y5 (s1) ?_ | refine y5 (sc) ?_); simp only [go_sem, *]) | ((with_reducible apply And.intro); focus omega) | (refine q7 hK ?_; clear hK; simp only [go_sem, *]) | simp only [q6, z8, go_sem, *])
     all_goals try contradiction
     (refine ⟨[_, _], [], [], ⟨rfl, rfl, trivial⟩, ?_⟩; simp only [go_sem, *])
    | some c =>
     have hc1 := hcl c rfl
     rw [show (some c : Option Str).isSome = true from rfl] at sc ⊢
     rw [if_pos rfl]
     simp only [Z6, Option.map_some, Option.getD_some, zNd] at sc ⊢
     clear hcl
     refine q9 func31 rfl (fun E hE => ?_); simp only [go_sem, ntmps31]
     repeat' (first | (refine Qr rfl ?_; try intro _ hK; try simp only [go_sem, *]) | refine Qh rfl ?_ | (refine Qc rfl rfl ?_ ?_ <;> (intro hb; have hc := hb; try simp only [go_sem] at hc)) | refine q8 rfl ?_ | ((first | refine y5 (s1) ?_ | refine y5 (sc) ?_); simp only [go_sem, *]) | ((with_reducible apply And.intro); focus omega) | (refine q7 hK ?_; clear hK; simp only [go_sem, *]) | simp only [q6, z8, go_sem, *])
     all_goals try contradiction
     (refine ⟨[_, _], [], [], ⟨rfl, rfl, trivial⟩, ?_⟩; simp only [go_sem, *])
 ·rw [if_neg q] at s1
  rw [if_neg q, if_neg q]
  generalize f7 l n = e at *
  refine q9 func31 rfl (fun E hE => ?_); simp only [go_sem, ntmps31]
  repeat' (first | (refine Qr rfl ?_; try intro _ hK; try simp only [go_sem, *]) | refine Qh rfl ?_ | (refine Qc rfl rfl ?_ ?_ <;> (intro hb; have hc := hb; try simp only [go_sem] at hc)) | refine q8 rfl ?_ | (refine y5 (s1) ?_; simp only [go_sem, *]) | ((with_reducible apply And.intro); focus omega) | (refine q7 hK ?_; clear hK; simp only [go_sem, *]) | simp only [q6, z8, go_sem, *])
  all_goals try contradiction
  (refine ⟨[_, _], [], [], ⟨rfl, rfl, trivial⟩, ?_⟩; simp only [go_sem, *])
end Go.Abs

namespace Go.Abs
open Go Go.Proofs Tryz
attribute [local irreducible] y6 Hold x5
theorem zMU : zMf prog 22 [] [] (bV true) [] := by
 have s1 := zHx zNO
 rw [zI4, if_pos rfl, zI7] at s1
 have s2 := zH3 [H0, zNO, E8, zNh] zI8
 rw [zJB] at s2
 have s3 := zIX
 have s4 := zDQ rulesX Y8 Q0 (by decide) (by decide)
 have e4 : X8 rulesX Y8 Q0 = some [Y8, H1, Q0] := by unfold X8; rw [if_pos zD1, zD0]
 have e5 : o7 rulesX Y8 Q0 = 0 := by unfold o7; rw [if_pos zD1, zD0]; rfl
 rw [e4, e5] at s4
 have s5 := zIY
 have s6 := zH1 smithsX 0 (by decide)
 rw [zI9, zJA] at s6
 have s7 := zHr smithsX 0 4 (by decide)
 rw [zI5, zI6] at s7
 have s8 := zHp [2, 3, 0, 1] [2, 3, 0, 1] (by decide)
 rw [decide_eq_true rfl] at s8
 have s9 := zHq [Y8, H1, Q0] [Y8, H1, Q0] (by decide)
 rw [decide_eq_true rfl] at s9
 clear e4 e5
 simp only [y8, R5, w6, zEM, rulesX, smithsX, zNO, H0, E8, zNh, Y8, H1, Q0, zAj, zNr, Rule.enc, List.map_cons, List.map_nil, List.length_cons, List.length_nil] at s1 s2 s3 s4 s5 s6 s7 s8 s9
 refine q9 func22 rfl (fun E hE => ?_); simp only [go_sem, ntmps22]
 repeat' (first | (refine Qr rfl ?_; try intro _ hK; try simp only [go_sem, *]) | (refine Qi rfl rfl rfl rfl ?_ ?_ <;> (intro hb; (try intro _ hK); have hc := hb; try simp only [go_sem] at hc; simp only [go_sem, *])) | refine Qh rfl ?_ | (refine Qc rfl rfl ?_ ?_ <;> (intro hb; have hc := hb; try simp only [go_sem] at hc)) | refine q8 rfl ?_ | (refine y5 (s1) ?_; simp only [go_sem, *]) | (refine j8 (s3) ?_; simp only [go_sem, *]) | (refine j8 (s5) ?_; simp only [go_sem, *]) | ((with_reducible apply And.intro); focus omega) | (refine q7 hK ?_; clear hK; simp only [go_sem, *]) | simp only [q6, z8, go_sem, *])
 refine Z7 [] [0] s2 rfl (by simp only [go_sem]) (by simp) ?_ ?_ (by simp [go_sem]) (by simp [go_sem]) ?_
 ·simp only [go_sem, *]
 ·simp only [go_sem, *]
 simp only [go_sem, u5, *]
 repeat' (first | (refine Qr rfl ?_; try intro _ hK; try simp only [go_sem, *]) | (refine Qi rfl rfl rfl rfl ?_ ?_ <;> (intro hb; (try intro _ hK); have hc := hb; try simp only [go_sem] at hc; simp only [go_sem, *])) | refine Qh rfl ?_ | (refine Qc rfl rfl ?_ ?_ <;> (intro hb; have hc := hb; try simp only [go_sem] at hc)) | refine q8 rfl ?_ | (refine y5 (s1) ?_; simp only [go_sem, *]) | (refine j8 (s3) ?_; simp only [go_sem, *]) | (refine j8 (s5) ?_; simp only [go_sem, *]) | ((with_reducible apply And.intro); focus omega) | (refine q7 hK ?_; clear hK; simp only [go_sem, *]) | simp only [q6, z8, go_sem, *])
 refine Z7 [] [2] s4 rfl (by simp only [go_sem]) (by simp) ?_ ?_ (by simp [go_sem]) (by simp [go_sem]) ?_
 ·simp only [go_sem, *]
 ·simp only [go_sem, *]
 simp only [go_sem, u5, *]
 repeat' (first | (refine Qr rfl ?_; try intro _ hK; try simp only [go_sem, *]) | (refine Qi rfl rfl rfl rfl ?_ ?_ <;> (intro hb; (try intro _ hK); have hc := hb; try simp only [go_sem] at hc; simp only [go_sem, *])) | refine Qh rfl ?_ | (refine Qc rfl rfl ?_ ?_ <;> (intro hb; have hc := hb; try simp only [go_sem] at hc)) | refine q8 rfl ?_ | (refine y5 (s1) ?_; simp only [go_sem, *]) | (refine j8 (s3) ?_; simp only [go_sem, *]) | (refine j8 (s5) ?_; simp only [go_sem, *]) | ((with_reducible apply And.intro); focus omega) | (refine q7 hK ?_; clear hK; simp only [go_sem, *]) | simp only [q6, z8, go_sem, *])
 refine Z7 [] [3] s6 rfl (by simp only [go_sem]) (by simp) ?_ ?_ (by simp [go_sem]) (by simp [go_sem]) ?_
 ·simp only [go_sem, *]
 ·simp only [go_sem, *]
 simp only [go_sem, u5, *]
 repeat' (first | (refine Qr rfl ?_; try intro _ hK; try simp only [go_sem, *]) | (refine Qi rfl rfl rfl rfl ?_ ?_ <;> (intro hb; (try intro _ hK); have hc := hb; try simp only [go_sem] at hc; simp only [go_sem, *])) | refine Qh rfl ?_ | (refine Qc rfl rfl ?_ ?_ <;> (intro hb; have hc := hb; try simp only [go_sem] at hc)) | refine q8 rfl ?_ | (refine y5 (s1) ?_; simp only [go_sem, *]) | (refine j8 (s3) ?_; simp only [go_sem, *]) | (refine j8 (s5) ?_; simp only [go_sem, *]) | ((with_reducible apply And.intro); focus omega) | (refine q7 hK ?_; clear hK; simp only [go_sem, *]) | simp only [q6, z8, go_sem, *])
 refine Z7 [] [4] s7 rfl (by simp only [go_sem]) (by simp) ?_ ?_ (by simp [go_sem]) (by simp [go_sem]) ?_
 ·simp only [go_sem, *]
 ·simp only [go_sem, *]
 simp only [go_sem, u5, *]
 repeat' (first | (refine Qr rfl ?_; try intro _ hK; try simp only [go_sem, *]) | (refine Qi rfl rfl rfl rfl ?_ ?_ <;> (intro hb; (try intro _ hK); have hc := hb; try simp only [go_sem] at hc; simp only [go_sem, *])) | refine Qh rfl ?_ | (refine Qc rfl rfl ?_ ?_ <;> (intro hb; have hc := hb; try simp only [go_sem] at hc)) | refine q8 rfl ?_ | (refine y5 (s1) ?_; simp only [go_sem, *]) | (refine j8 (s3) ?_; simp only [go_sem, *]) | (refine j8 (s5) ?_; simp only [go_sem, *]) | ((with_reducible apply And.intro); focus omega) | (refine q7 hK ?_; clear hK; simp only [go_sem, *]) | simp only [q6, z8, go_sem, *])
 refine Z7 [] [1, 5] s8 rfl (by simp only [go_sem]) (by simp) ?_ ?_ (by simp [go_sem]) (by simp [go_sem]) ?_
 ·simp only [go_sem, *]; rfl
 ·simp only [go_sem, *]
 simp only [go_sem, u5, *]
 repeat' (first | (refine Qr rfl ?_; try intro _ hK; try simp only [go_sem, *]) | (refine Qi rfl rfl rfl rfl ?_ ?_ <;> (intro hb; (try intro _ hK); have hc := hb; try simp only [go_sem] at hc; simp only [go_sem, *])) | refine Qh rfl ?_ | (refine Qc rfl rfl ?_ ?_ <;> (intro hb; have hc := hb; try simp only [go_sem] at hc)) | refine q8 rfl ?_ | ((with_reducible apply And.intro); focus omega) | (refine q7 hK ?_; clear hK; simp only [go_sem, *]) | simp only [q6, z8, go_sem, *])
 refine Z7 [] [6] s9 rfl (by simp only [go_sem]) (by simp) ?_ ?_ (by simp [go_sem]) (by simp [go_sem]) ?_
 ·simp only [go_sem, *]
 ·simp only [go_sem, *]
 simp only [go_sem, u5, *]
 repeat' (first | (refine Qr rfl ?_; try intro _ hK; try simp only [go_sem, *]) | (refine Qi rfl rfl rfl rfl ?_ ?_ <;> (intro hb; (try intro _ hK); have hc := hb; try simp only [go_sem] at hc; simp only [go_sem, *])) | refine Qh rfl ?_ | (refine Qc rfl rfl ?_ ?_ <;> (intro hb; have hc := hb; try simp only [go_sem] at hc)) | refine q8 rfl ?_ | ((with_reducible apply And.intro); focus omega) | (refine q7 hK ?_; clear hK; simp only [go_sem, *]) | simp only [q6, z8, go_sem, *])
 (refine ⟨[_], [], [], ⟨rfl, trivial⟩, ?_⟩; simp only [go_sem, *])
end Go.Abs

namespace Go.Abs
open Go Go.Proofs Tryz
attribute [local irreducible] y6 Hold x5
def zGw (t : Nat) : List UInt8 := ((List.range' (65 + t) (26 - t)).map UInt8.ofNat).filter u9
end Go.Abs

namespace Go.Abs
open Go Go.Proofs Tryz
attribute [local irreducible] y6 Hold x5
theorem zDc (c : UInt8) : zMf prog 93 [.raw (.int .u8 (c.toNat : Int))] [] (bV (y9 c)) [] := by
 have e : y9 c = (decide ((c.toNat : Int) ≥ 97) && decide ((c.toNat : Int) ≤ 122)) := by unfold y9; rw [Bool.eq_iff_iff]; simp; omega
 rw [e]
 clear e
 refine q9 func93 rfl (fun E hE => ?_); simp only [go_sem, ntmps93]
 repeat' (first | (refine Qr rfl ?_; try intro _ hK; try simp only [go_sem, *]) | (refine Qi rfl rfl rfl rfl ?_ ?_ <;> (intro hb; (try intro _ hK); have hc := hb; try simp only [go_sem] at hc; simp only [go_sem, *])) | refine Qh rfl ?_ | (refine Qc rfl rfl ?_ ?_ <;> (intro hb; have hc := hb; try simp only [go_sem] at hc)) | refine q8 rfl ?_ | ((with_reducible apply And.intro); focus omega) | (refine q7 hK ?_; clear hK; simp only [go_sem, *]) | simp only [q6, z8, go_sem, *])
 all_goals (refine ⟨[_], [], [], ⟨rfl, trivial⟩, ?_⟩; simp only [go_sem, *])
 all_goals simp_all
theorem zA5 (s : Str) (h : 0 < s.length) : zMf prog 46 [sV s] [] (bV (y9 (s.getD 0 0))) [] := by
 have sl := zDc (s.getD 0 0)
 generalize y9 (s.getD 0 0) = b at *
 refine q9 func46 rfl (fun E hE => ?_); simp only [go_sem, ntmps46]
 repeat' (first | (refine Qr rfl ?_; try intro _ hK; try simp only [go_sem, *]) | refine Qh rfl ?_ | (refine Qc rfl rfl ?_ ?_ <;> (intro hb; have hc := hb; try simp only [go_sem] at hc)) | refine q8 rfl ?_ | (refine y5 (sl) ?_; simp only [go_sem, *]) | ((with_reducible apply And.intro); focus omega) | (refine q7 hK ?_; clear hK; simp only [go_sem, *]) | simp only [q6, z8, go_sem, *])
 (refine ⟨[_], [], [], ⟨rfl, trivial⟩, ?_⟩; simp only [go_sem, *])
end Go.Abs

namespace Go.Abs
open Go
def G4 (l : List Str) : List Str := (r6 l).map fun i => l.getD i default
theorem zMI (l : List Str) : (G4 l).length = l.length := by unfold G4; rw [List.length_map, C8]
theorem zMH {l : List Str} {j : Nat} (h : j < l.length) : (G4 l).getD j default = l.getD ((r6 l).getD j default) default := by
 have h2 : j < (r6 l).length := by rw [C8]; exact h
 simp [G4, List.getD, h2]
theorem zMG {l : List Str} {j : Nat} (h : j < l.length) : (r6 l).getD j default < l.length := by
 have h2 : j < (r6 l).length := by rw [C8]; exact h
 have hm : (r6 l).getD j default ∈ r6 l := by simp [List.getD, h2]
 exact List.mem_range.1 ((G3 (l := l)).mem_iff.1 hm)
theorem zMJ {l : List Str} (hv : ∀ s, s ∈ l → ValidN s) : ∀ s, s ∈ G4 l → ValidN s := fun s hs => by
 obtain ⟨i, hi, rfl⟩ := List.mem_map.1 hs
 have := List.mem_range.1 ((G3 (l := l)).mem_iff.1 hi)
 refine hv _ ?_
 simp [List.getD, this]
end Go.Abs

namespace Go.Abs
open Go Go.Proofs Tryz
attribute [local irreducible] y6 Hold x5
def j7 (c : UInt8) : Str := if u9 c = true then w8 c else []
theorem zI1 : ∀ n : Nat, n < 91 → 65 ≤ n → IntKind.u8.wrap ((n : Int) - 65) = ((n - 65 : Nat) : Int) := by decide
theorem zI2 : ∀ n : Nat, n < 91 → 65 ≤ n → IntKind.u8.wrap (((n - 65 : Nat) : Int) + 97) = ((n + 32 : Nat) : Int) := by decide
theorem zGd : ((List.range 91).all fun n => decide (n < 65) || (n == 67 || (n == 74 || (n == 88 || (n == 89 || (n == 72 || (n == 81 || (n == 87 || decide (j7 (UInt8.ofNat n) = [UInt8.ofNat (n + 32)]))))))))) = true := by kernel_rfl
theorem zIl (n : Nat) (h : n < 91) (h0 : 65 ≤ n) (h1 : n ≠ 67) (h2 : n ≠ 74) (h3 : n ≠ 88) (h4 : n ≠ 89) (h5 : n ≠ 72) (h6 : n ≠ 81) (h7 : n ≠ 87) : j7 (UInt8.ofNat n) = [UInt8.ofNat (n + 32)] := by
 have := List.all_eq_true.1 zGd n (List.mem_range.2 h)
 simp only [Bool.or_eq_true, decide_eq_true_eq, beq_iff_eq] at this
 rcases this with h | h | h | h | h | h | h | h | h
 ·omega
 ·exact absurd h h1
 ·exact absurd h h2
 ·exact absurd h h3
 ·exact absurd h h4
 ·exact absurd h h5
 ·exact absurd h h6
 ·exact absurd h h7
 ·exact h
theorem zIm : ∀ n : Nat, n < 256 → (n < 65 ∨ 90 < n) → j7 (UInt8.ofNat n) = [] := by decide
theorem zDd (c : UInt8) : zMf prog 94 [.raw (.int .u8 (c.toNat : Int))] [] (sV (j7 c)) [] := by
 have hc0 := c.toNat_lt
 have e : j7 c = j7 (UInt8.ofNat c.toNat) := by rw [UInt8.ofNat_toNat]
 rw [e]
 clear e
 generalize c.toNat = n at *
 have hn : n < 256 := hc0
 clear hc0
 by_cases h1 : n < 65 ∨ 90 < n
 ·rw [zIm n hn h1]
  by_cases h2 : n < 65
  ·refine q9 func94 rfl (fun E hE => ?_); simp only [go_sem, ntmps94]
   repeat' (first | (refine Qr rfl ?_; try intro _ hK; try simp only [go_sem, *]) | (refine Qi rfl rfl rfl rfl ?_ ?_ <;> (intro hb; (try intro _ hK); have hc := hb; try simp only [go_sem] at hc; simp only [go_sem, *])) | refine Qh rfl ?_ | (refine Qc rfl rfl ?_ ?_ <;> (intro hb; have hc := hb; try simp only [go_sem] at hc)) | refine q8 rfl ?_ | ((with_reducible apply And.intro); focus omega) | (refine q7 hK ?_; clear hK; simp only [go_sem, *]) | simp only [q6, z8, go_sem, *])
   all_goals first | contradiction | omega | skip
   all_goals (refine ⟨[_], [], [], ⟨rfl, trivial⟩, ?_⟩; simp only [go_sem, *])
  ·have h3 : 90 < n := h1.resolve_left h2
   refine q9 func94 rfl (fun E hE => ?_); simp only [go_sem, ntmps94]
   repeat' (first | (refine Qr rfl ?_; try intro _ hK; try simp only [go_sem, *]) | (refine Qi rfl rfl rfl rfl ?_ ?_ <;> (intro hb; (try intro _ hK); have hc := hb; try simp only [go_sem] at hc; simp only [go_sem, *])) | refine Qh rfl ?_ | (refine Qc rfl rfl ?_ ?_ <;> (intro hb; have hc := hb; try simp only [go_sem] at hc)) | refine q8 rfl ?_ | ((with_reducible apply And.intro); focus omega) | (refine q7 hK ?_; clear hK; simp only [go_sem, *]) | simp only [q6, z8, go_sem, *])
   all_goals first | contradiction | omega | skip
   all_goals (refine ⟨[_], [], [], ⟨rfl, trivial⟩, ?_⟩; simp only [go_sem, *])
 ·have ha : 65 ≤ n := by omega
  have hb0 : n < 91 := by omega
  by_cases h2 : n = 67 ∨ n = 74 ∨ n = 88 ∨ n = 89 ∨ n = 72 ∨ n = 81 ∨ n = 87
  ·rcases h2 with rfl | rfl | rfl | rfl | rfl | rfl | rfl
   all_goals clear h1 ha hb0 hn
   ·have e : j7 (UInt8.ofNat 67) = [99, 104] := by decide
    rw [e]
    refine q9 func94 rfl (fun E hE => ?_); simp only [go_sem, ntmps94]
    repeat' (first | (refine Qr rfl ?_; try intro _ hK; try simp only [go_sem, *]) | (refine Qi rfl rfl rfl rfl ?_ ?_ <;> (intro hb; (try intro _ hK); have hc := hb; try simp only [go_sem] at hc; simp only [go_sem, *])) | refine Qh rfl ?_ | (refine Qc rfl rfl ?_ ?_ <;> (intro hb; have hc := hb; try simp only [go_sem] at hc)) | refine q8 rfl ?_ | ((with_reducible apply And.intro); focus omega) | (refine q7 hK ?_; clear hK; simp only [go_sem, *]) | simp only [q6, z8, go_sem, *])
    all_goals first | contradiction | omega | skip
    all_goals (refine ⟨[_], [], [], ⟨rfl, trivial⟩, ?_⟩; simp only [go_sem, *])
   ·have e : j7 (UInt8.ofNat 74) = [106, 117] := by decide
    rw [e]
    refine q9 func94 rfl (fun E hE => ?_); simp only [go_sem, ntmps94]
    repeat' (first | (refine Qr rfl ?_; try intro _ hK; try simp only [go_sem, *]) | (refine Qi rfl rfl rfl rfl ?_ ?_ <;> (intro hb; (try intro _ hK); have hc := hb; try simp only [go_sem] at hc; simp only [go_sem, *])) | refine Qh rfl ?_ | (refine Qc rfl rfl ?_ ?_ <;> (intro hb; have hc := hb; try simp only [go_sem] at hc)) | refine q8 rfl ?_ | ((with_reducible apply And.intro); focus omega) | (refine q7 hK ?_; clear hK; simp only [go_sem, *]) | simp only [q6, z8, go_sem, *])
    all_goals first | contradiction | omega | skip
    all_goals (refine ⟨[_], [], [], ⟨rfl, trivial⟩, ?_⟩; simp only [go_sem, *])
   ·have e : j7 (UInt8.ofNat 88) = [115, 104] := by decide
    rw [e]
    refine q9 func94 rfl (fun E hE => ?_); simp only [go_sem, ntmps94]
    repeat' (first | (refine Qr rfl ?_; try intro _ hK; try simp only [go_sem, *]) | (refine Qi rfl rfl rfl rfl ?_ ?_ <;> (intro hb; (try intro _ hK); have hc := hb; try simp only [go_sem] at hc; simp only [go_sem, *])) | refine Qh rfl ?_ | (refine Qc rfl rfl ?_ ?_ <;> (intro hb; have hc := hb; try simp only [go_sem] at hc)) | refine q8 rfl ?_ | ((with_reducible apply And.intro); focus omega) | (refine q7 hK ?_; clear hK; simp only [go_sem, *]) | simp only [q6, z8, go_sem, *])
    all_goals first | contradiction | omega | skip
    all_goals (refine ⟨[_], [], [], ⟨rfl, trivial⟩, ?_⟩; simp only [go_sem, *])
   ·have e : j7 (UInt8.ofNat 89) = [106, 97] := by decide
    rw [e]
    refine q9 func94 rfl (fun E hE => ?_); simp only [go_sem, ntmps94]
    repeat' (first | (refine Qr rfl ?_; try intro _ hK; try simp only [go_sem, *]) | (refine Qi rfl rfl rfl rfl ?_ ?_ <;> (intro hb; (try intro _ hK); have hc := hb; try simp only [go_sem] at hc; simp only [go_sem, *])) | refine Qh rfl ?_ | (refine Qc rfl rfl ?_ ?_ <;> (intro hb; have hc := hb; try simp only [go_sem] at hc)) | refine q8 rfl ?_ | ((with_reducible apply And.intro); focus omega) | (refine q7 hK ?_; clear hK; simp only [go_sem, *]) | simp only [q6, z8, go_sem, *])
    all_goals first | contradiction | omega | skip
    all_goals (refine ⟨[_], [], [], ⟨rfl, trivial⟩, ?_⟩; simp only [go_sem, *])
   ·have e : j7 (UInt8.ofNat 72) = [] := by decide
    rw [e]
    refine q9 func94 rfl (fun E hE => ?_); simp only [go_sem, ntmps94]
    repeat' (first | (refine Qr rfl ?_; try intro _ hK; try simp only [go_sem, *]) | (refine Qi rfl rfl rfl rfl ?_ ?_ <;> (intro hb; (try intro _ hK); have hc := hb; try simp only [go_sem] at hc; simp only [go_sem, *])) | refine Qh rfl ?_ | (refine Qc rfl rfl ?_ ?_ <;> (intro hb; have hc := hb; try simp only [go_sem] at hc)) | refine q8 rfl ?_ | ((with_reducible apply And.intro); focus omega) | (refine q7 hK ?_; clear hK; simp only [go_sem, *]) | simp only [q6, z8, go_sem, *])
    all_goals first | contradiction | omega | skip
    all_goals (refine ⟨[_], [], [], ⟨rfl, trivial⟩, ?_⟩; simp only [go_sem, *])
   ·have e : j7 (UInt8.ofNat 81) = [] := by decide
    rw [e]
    refine q9 func94 rfl (fun E hE => ?_); simp only [go_sem, ntmps94]
    repeat' (first | (refine Qr rfl ?_; try intro _ hK; try simp only [go_sem, *]) | (refine Qi rfl rfl rfl rfl ?_ ?_ <;> (intro hb; (try intro _ hK); have hc := hb; try simp only [go_sem] at hc; simp only [go_sem, *])) | refine Qh rfl ?_ | (refine Qc rfl rfl ?_ ?_ <;> (intro hb; have hc := hb; try simp only [go_sem] at hc)) | refine q8 rfl ?_ | ((with_reducible apply And.intro); focus omega) | (refine q7 hK ?_; clear hK; simp only [go_sem, *]) | simp only [q6, z8, go_sem, *])
    all_goals first | contradiction | omega | skip
    all_goals (refine ⟨[_], [], [], ⟨rfl, trivial⟩, ?_⟩; simp only [go_sem, *])
   ·have e : j7 (UInt8.ofNat 87) = [] := by decide
    rw [e]
    refine q9 func94 rfl (fun E hE => ?_); simp only [go_sem, ntmps94]
    repeat' (first | (refine Qr rfl ?_; try intro _ hK; try simp only [go_sem, *]) | (refine Qi rfl rfl rfl rfl ?_ ?_ <;> (intro hb; (try intro _ hK); have hc := hb; try simp only [go_sem] at hc; simp only [go_sem, *])) | refine Qh rfl ?_ | (refine Qc rfl rfl ?_ ?_ <;> (intro hb; have hc := hb; try simp only [go_sem] at hc)) | refine q8 rfl ?_ | ((with_reducible apply And.intro); focus omega) | (refine q7 hK ?_; clear hK; simp only [go_sem, *]) | simp only [q6, z8, go_sem, *])
    all_goals first | contradiction | omega | skip
    all_goals (refine ⟨[_], [], [], ⟨rfl, trivial⟩, ?_⟩; simp only [go_sem, *])
  ·have e := zIl n hb0 ha (by omega) (by omega) (by omega) (by omega) (by omega) (by omega) (by omega)
   rw [e]
   have hw1 := zI1 n hb0 ha
   have hw2 := zI2 n hb0 ha
   have z1 : ((n : Int) == 67) = false := by rw [beq_eq_false_iff_ne]; omega
   have z2 : ((n : Int) == 74) = false := by rw [beq_eq_false_iff_ne]; omega
   have z3 : ((n : Int) == 88) = false := by rw [beq_eq_false_iff_ne]; omega
   have z4 : ((n : Int) == 89) = false := by rw [beq_eq_false_iff_ne]; omega
   have z5 : ((n : Int) == 72) = false := by rw [beq_eq_false_iff_ne]; omega
   have z6 : ((n : Int) == 81) = false := by rw [beq_eq_false_iff_ne]; omega
   have z7 : ((n : Int) == 87) = false := by rw [beq_eq_false_iff_ne]; omega
   have g1 : (n : Int) ≥ 65 := by omega
   have g2 : (n : Int) ≤ 90 := by omega
   clear e h1 h2
   refine q9 func94 rfl (fun E hE => ?_); simp only [go_sem, ntmps94]
   repeat' (first | (refine Qr rfl ?_; try intro _ hK; try simp only [go_sem, *]) | (refine Qi rfl rfl rfl rfl ?_ ?_ <;> (intro hb; (try intro _ hK); have hc := hb; try simp only [go_sem] at hc; simp only [go_sem, *])) | refine Qh rfl ?_ | (refine Qc rfl rfl ?_ ?_ <;> (intro hb; have hc := hb; try simp only [go_sem] at hc)) | refine q8 rfl ?_ | ((with_reducible apply And.intro); focus omega) | (refine q7 hK ?_; clear hK; simp only [go_sem, *]) | simp only [q6, z8, go_sem, *])
   all_goals first | contradiction | omega | skip
   all_goals (refine ⟨[_], [], [], ⟨rfl, trivial⟩, ?_⟩; simp only [go_sem, *])
end Go.Abs

namespace Go.Abs
open Go Go.Proofs Tryz
attribute [local irreducible] y6 Hold x5
def T9 (s : Str) (i a b : Nat) : Prop := a = (s.take i).countP y9 ∧ b = (s.take i).countP u9
theorem zIk (c : UInt8) : (j7 c == ([] : Str)) = !u9 c := by
 unfold j7
 cases h : u9 c
 ·rfl
 ·have := (C9 c).1
  rw [if_pos rfl]
  cases hs : w8 c with
  | nil => rw [hs] at this; simp at this
  | cons a r => rfl
theorem zA4 (s : Str) (hl : s.length ≤ 4294967296) : zMf prog 45 [sV s] [] (iV (x6 s)) [] := by
  unfold x6
  by_cases q0 : s.length = 0
  · rw [if_pos q0]
    have q0i : ((s.length : Int) == 0) = true := by rw [q0]; rfl
    refine q9 func45 rfl (fun E hE => ?_); simp only [go_sem, ntmps45]
    repeat' (first | (refine Qr rfl ?_; try intro _ hK; try simp only [go_sem, *]) | (refine Qi rfl rfl rfl rfl ?_ ?_ <;> (intro hb; (try intro _ hK); have hc := hb; try simp only [go_sem] at hc; simp only [go_sem, *])) | refine Qh rfl ?_ | (refine Qc rfl rfl ?_ ?_ <;> (intro hb; have hc := hb; try simp only [go_sem] at hc)) | refine q8 rfl ?_ | ((with_reducible apply And.intro); focus omega) | (refine q7 hK ?_; clear hK; simp only [go_sem, *]) | simp only [q6, z8, go_sem, *])
    all_goals first | contradiction | omega | skip
    all_goals (refine ⟨[_], [], [], ⟨rfl, trivial⟩, ?_⟩; simp only [go_sem, *])
  · rw [if_neg q0]
    have q0i : ((s.length : Int) == 0) = false := by rw [beq_eq_false_iff_ne]; omega
    by_cases q1 : 6 < s.length
    · rw [if_pos q1]
      have q1i : (s.length : Int) > 6 := by omega
      refine q9 func45 rfl (fun E hE => ?_); simp only [go_sem, ntmps45]
      repeat' (first | (refine Qr rfl ?_; try intro _ hK; try simp only [go_sem, *]) | (refine Qi rfl rfl rfl rfl ?_ ?_ <;> (intro hb; (try intro _ hK); have hc := hb; try simp only [go_sem] at hc; simp only [go_sem, *])) | refine Qh rfl ?_ | (refine Qc rfl rfl ?_ ?_ <;> (intro hb; have hc := hb; try simp only [go_sem] at hc)) | refine q8 rfl ?_ | ((with_reducible apply And.intro); focus omega) | (refine q7 hK ?_; clear hK; simp only [go_sem, *]) | simp only [q6, z8, go_sem, *])
      all_goals first | contradiction | omega | skip
      all_goals (refine ⟨[_], [], [], ⟨rfl, trivial⟩, ?_⟩; simp only [go_sem, *])
    · rw [if_neg q1]
      have q1i : ¬ (s.length : Int) > 6 := by omega
      refine q9 func45 rfl (fun E hE => ?_); simp only [go_sem, ntmps45]
      repeat' (first | (refine Qr rfl ?_; try intro _ hK; try simp only [go_sem, *]) | (refine Qi rfl rfl rfl rfl ?_ ?_ <;> (intro hb; (try intro _ hK); have hc := hb; try simp only [go_sem] at hc; simp only [go_sem, *])) | refine Qh rfl ?_ | (refine Qc rfl rfl ?_ ?_ <;> (intro hb; have hc := hb; try simp only [go_sem] at hc)) | refine q8 rfl ?_ | ((with_reducible apply And.intro); focus omega) | (refine q7 hK ?_; clear hK; simp only [go_sem, *]) | simp only [q6, z8, go_sem, *])
      all_goals first | contradiction | omega | skip
      refine N7 rfl (s.length) (fun i (a : Nat) (b : Nat) => T9 s i a b) 41 (fun i a b => [(5, iV i), (3, iV a), (4, iV b), (0, sV s)]) (fun i a b => []) [] [] (0) (0) (by exact ⟨rfl, rfl⟩) ?_; intro i a b hi hP
      by_cases hi2 : i < s.length
      · have hii : (i : Int) < (s.length : Int) := by omega
        have hwi : IntKind.i64.wrap ((i : Int) + 1) = ((i + 1 : Nat) : Int) := r7 (by omega)
        have hab : a ≤ i ∧ b ≤ i := by
          obtain ⟨h1, h2⟩ := hP
          have e1 := List.countP_le_length (p := y9) (l := s.take i)
          have e2 := List.countP_le_length (p := u9) (l := s.take i)
          simp only [List.length_take] at e1 e2
          omega
        have hwa : IntKind.i64.wrap ((a : Int) + 1) = ((a + 1 : Nat) : Int) := r7 (by omega)
        have hwb : IntKind.i64.wrap ((b : Int) + 1) = ((b + 1 : Nat) : Int) := r7 (by omega)
        have sl := zDc (s.getD i 0)
        have ss := zDd (s.getD i 0)
        have he := zIk (s.getD i 0)
        have hn : T9 s (i + 1) (if y9 (s.getD i 0) = true then a + 1 else a) (if u9 (s.getD i 0) = true then b + 1 else b) := by
          obtain ⟨h1, h2⟩ := hP
          have hd : s.getD i default = s.getD i 0 := rfl
          unfold T9
          rw [B2 hi2, hd, List.countP_append, List.countP_append, ← h1, ← h2]
          constructor
          · rw [List.countP_cons, List.countP_nil]; cases y9 (s.getD i 0) <;> simp
          · rw [List.countP_cons, List.countP_nil]; cases u9 (s.getD i 0) <;> simp
        clear hP hab
        generalize j7 (s.getD i 0) = st at *
        generalize y9 (s.getD i 0) = la at *
        generalize u9 (s.getD i 0) = ob at *
        cases la
        · cases ob
          · have hn : T9 s (i + 1) a b := hn
            have he : (st == ([] : Str)) = true := he
            have he : st = [] := by simpa using he
            subst he
            repeat' (first | (refine Qr rfl ?_; try intro _ hK; try simp only [go_sem, *]) | (refine Qi rfl rfl rfl rfl ?_ ?_ <;> (intro hb; (try intro _ hK); have hc := hb; try simp only [go_sem] at hc; simp only [go_sem, *])) | refine Qh rfl ?_ | (refine Qc rfl rfl ?_ ?_ <;> (intro hb; have hc := hb; try simp only [go_sem] at hc)) | refine q8 rfl ?_ | ((first | refine y5 (sl) ?_ | refine y5 (ss) ?_); simp only [go_sem, *]) | ((with_reducible apply And.intro); focus omega) | (refine q7 hK ?_; clear hK; simp only [go_sem, *]) | simp only [q6, z8, go_sem, *])
            all_goals first | contradiction | omega | skip
            exact c6 (i' := i + 1) [] [] (a) (b) (by exact hn)
          · have hn : T9 s (i + 1) a (b + 1) := hn
            have he : (st == ([] : Str)) = false := he
            repeat' (first | (refine Qr rfl ?_; try intro _ hK; try simp only [go_sem, *]) | (refine Qi rfl rfl rfl rfl ?_ ?_ <;> (intro hb; (try intro _ hK); have hc := hb; try simp only [go_sem] at hc; simp only [go_sem, *])) | refine Qh rfl ?_ | (refine Qc rfl rfl ?_ ?_ <;> (intro hb; have hc := hb; try simp only [go_sem] at hc)) | refine q8 rfl ?_ | ((first | refine y5 (sl) ?_ | refine y5 (ss) ?_); simp only [go_sem, *]) | ((with_reducible apply And.intro); focus omega) | (refine q7 hK ?_; clear hK; simp only [go_sem, *]) | simp only [q6, z8, go_sem, *])
            all_goals first | contradiction | omega | skip
            exact c6 (i' := i + 1) [] [] (a) (b + 1) (by exact hn)
        · cases ob
          · have hn : T9 s (i + 1) (a + 1) b := hn
            have he : (st == ([] : Str)) = true := he
            have he : st = [] := by simpa using he
            subst he
            repeat' (first | (refine Qr rfl ?_; try intro _ hK; try simp only [go_sem, *]) | (refine Qi rfl rfl rfl rfl ?_ ?_ <;> (intro hb; (try intro _ hK); have hc := hb; try simp only [go_sem] at hc; simp only [go_sem, *])) | refine Qh rfl ?_ | (refine Qc rfl rfl ?_ ?_ <;> (intro hb; have hc := hb; try simp only [go_sem] at hc)) | refine q8 rfl ?_ | ((first | refine y5 (sl) ?_ | refine y5 (ss) ?_); simp only [go_sem, *]) | ((with_reducible apply And.intro); focus omega) | (refine q7 hK ?_; clear hK; simp only [go_sem, *]) | simp only [q6, z8, go_sem, *])
            all_goals first | contradiction | omega | skip
            exact c6 (i' := i + 1) [] [] (a + 1) (b) (by exact hn)
          · have hn : T9 s (i + 1) (a + 1) (b + 1) := hn
            have he : (st == ([] : Str)) = false := he
            repeat' (first | (refine Qr rfl ?_; try intro _ hK; try simp only [go_sem, *]) | (refine Qi rfl rfl rfl rfl ?_ ?_ <;> (intro hb; (try intro _ hK); have hc := hb; try simp only [go_sem] at hc; simp only [go_sem, *])) | refine Qh rfl ?_ | (refine Qc rfl rfl ?_ ?_ <;> (intro hb; have hc := hb; try simp only [go_sem] at hc)) | refine q8 rfl ?_ | ((first | refine y5 (sl) ?_ | refine y5 (ss) ?_); simp only [go_sem, *]) | ((with_reducible apply And.intro); focus omega) | (refine q7 hK ?_; clear hK; simp only [go_sem, *]) | simp only [q6, z8, go_sem, *])
            all_goals first | contradiction | omega | skip
            exact c6 (i' := i + 1) [] [] (a + 1) (b + 1) (by exact hn)
      · have hii : ¬ (i : Int) < (s.length : Int) := by omega
        obtain ⟨h1, h2⟩ := hP
        rw [List.take_of_length_le (by omega)] at h1 h2
        have k1 : (a < s.length) ↔ s.all y9 = false := by
          have := List.countP_le_length (p := y9) (l := s)
          have e := List.countP_eq_length (p := y9) (l := s)
          rw [← h1] at this e
          rw [List.all_eq_false]
          constructor
          · intro h
            by_cases hx : ∃ x, x ∈ s ∧ ¬ y9 x = true
            · exact hx
            · have := e.2 (fun x hx2 => by
                cases hq : y9 x with
                | true => rfl
                | false => exact absurd ⟨x, hx2, by rw [hq]; decide⟩ hx)
              omega
          · rintro ⟨x, hx, hn⟩
            by_cases ha : a = s.length
            · exact absurd (e.1 ha x hx) hn
            · omega
        have k2 : (b < s.length) ↔ s.all u9 = false := by
          have := List.countP_le_length (p := u9) (l := s)
          have e := List.countP_eq_length (p := u9) (l := s)
          rw [← h2] at this e
          rw [List.all_eq_false]
          constructor
          · intro h
            by_cases hx : ∃ x, x ∈ s ∧ ¬ u9 x = true
            · exact hx
            · have := e.2 (fun x hx2 => by
                cases hq : u9 x with
                | true => rfl
                | false => exact absurd ⟨x, hx2, by rw [hq]; decide⟩ hx)
              omega
          · rintro ⟨x, hx, hn⟩
            by_cases ha : b = s.length
            · exact absurd (e.1 ha x hx) hn
            · omega
        have hfb : l7 s = (s.all y9 || s.all u9) := rfl
        rw [hfb]
        clear h1 h2 hfb
        generalize s.all y9 = la at *
        generalize s.all u9 = ob at *
        cases la
        · have a1 : (a : Int) < (s.length : Int) := by have := k1.2 rfl; omega
          cases ob
          · have b1 : (b : Int) < (s.length : Int) := by have := k2.2 rfl; omega
            clear k1 k2
            repeat' (first | (refine Qr rfl ?_; try intro _ hK; try simp only [go_sem, *]) | (refine Qi rfl rfl rfl rfl ?_ ?_ <;> (intro hb; (try intro _ hK); have hc := hb; try simp only [go_sem] at hc; simp only [go_sem, *])) | refine Qh rfl ?_ | (refine Qc rfl rfl ?_ ?_ <;> (intro hb; have hc := hb; try simp only [go_sem] at hc)) | refine q8 rfl ?_ | ((with_reducible apply And.intro); focus omega) | (refine q7 hK ?_; clear hK; simp only [go_sem, *]) | simp only [q6, z8, go_sem, *])
            all_goals first | contradiction | omega | skip
            (refine ⟨[_], [], [], ⟨rfl, trivial⟩, ?_⟩; simp only [go_sem, *])
          · have b1 : ¬ (b : Int) < (s.length : Int) := fun h => by have := k2.1 (by omega); cases this
            clear k1 k2
            repeat' (first | (refine Qr rfl ?_; try intro _ hK; try simp only [go_sem, *]) | (refine Qi rfl rfl rfl rfl ?_ ?_ <;> (intro hb; (try intro _ hK); have hc := hb; try simp only [go_sem] at hc; simp only [go_sem, *])) | refine Qh rfl ?_ | (refine Qc rfl rfl ?_ ?_ <;> (intro hb; have hc := hb; try simp only [go_sem] at hc)) | refine q8 rfl ?_ | ((with_reducible apply And.intro); focus omega) | (refine q7 hK ?_; clear hK; simp only [go_sem, *]) | simp only [q6, z8, go_sem, *])
            all_goals first | contradiction | omega | skip
            (refine ⟨[_], [], [], ⟨rfl, trivial⟩, ?_⟩; simp only [go_sem, *])
        · have a1 : ¬ (a : Int) < (s.length : Int) := fun h => by have := k1.1 (by omega); cases this
          clear k1 k2
          repeat' (first | (refine Qr rfl ?_; try intro _ hK; try simp only [go_sem, *]) | (refine Qi rfl rfl rfl rfl ?_ ?_ <;> (intro hb; (try intro _ hK); have hc := hb; try simp only [go_sem] at hc; simp only [go_sem, *])) | refine Qh rfl ?_ | (refine Qc rfl rfl ?_ ?_ <;> (intro hb; have hc := hb; try simp only [go_sem] at hc)) | refine q8 rfl ?_ | ((with_reducible apply And.intro); focus omega) | (refine q7 hK ?_; clear hK; simp only [go_sem, *]) | simp only [q6, z8, go_sem, *])
          all_goals first | contradiction | omega | skip
          (refine ⟨[_], [], [], ⟨rfl, trivial⟩, ?_⟩; simp only [go_sem, *])
theorem zDb (s : Str) (v : ValidN s) : zMf prog 84 [sV s] [] (sV (zMh s)) [] := by
 have sl := zA5 s v.ne
 have hl6 := v.len
 cases hla : y9 (s.getD 0 0)
 ·rw [hla] at sl
  have ho := v.other hla
  clear hla
  refine q9 func84 rfl (fun E hE => ?_); simp only [go_sem, ntmps84]
  repeat' (first | (refine Qr rfl ?_; try intro _ hK; try simp only [go_sem, *]) | refine Qh rfl ?_ | (refine Qc rfl rfl ?_ ?_ <;> (intro hb; have hc := hb; try simp only [go_sem] at hc)) | refine q8 rfl ?_ | (refine y5 (sl) ?_; simp only [go_sem, *]) | ((with_reducible apply And.intro); focus omega) | (refine q7 hK ?_; clear hK; simp only [go_sem, *]) | simp only [q6, z8, go_sem, *])
  all_goals try contradiction
  refine o9 rfl (s.length) (fun i => NoQ i) 21 (fun i => [(4, iV i), (3, sV (zMh (s.take i))), (0, sV s)]) (fun i => []) [] [] (by trivial) ?_; intro i hi hP
  have hk2 := zCV s i
  by_cases hi2 : i < s.length
  ·have hii : (i : Int) < (s.length : Int) := by omega
   have hwi : IntKind.i64.wrap ((i : Int) + 1) = ((i + 1 : Nat) : Int) := r7 (by omega)
   have ss := zDd (s.getD i 0)
   have hob : u9 (s.getD i 0) = true := List.all_eq_true.1 ho _ (by simp [List.getD, hi2])
   have e : j7 (s.getD i 0) = w8 (s.getD i 0) := by unfold j7; rw [if_pos hob]
   rw [e] at ss
   have hs2 := (C9 (s.getD i 0)).2
   have hkt := zCW hi2
   generalize w8 (s.getD i 0) = sb at *
   generalize zMh (s.take i) = kt at *
   clear e hob ho
   repeat' (first | (refine Qr rfl ?_; try intro _ hK; try simp only [go_sem, *]) | refine Qh rfl ?_ | (refine Qc rfl rfl ?_ ?_ <;> (intro hb; have hc := hb; try simp only [go_sem] at hc)) | refine q8 rfl ?_ | (refine y5 (ss) ?_; simp only [go_sem, *]) | ((with_reducible apply And.intro); focus omega) | (refine q7 hK ?_; clear hK; simp only [go_sem, *]) | simp only [q6, z8, go_sem, *])
   all_goals first | contradiction | omega | skip
   exact f8 (i' := i + 1) [] [] (by trivial)
  ·have e : s.take i = s := List.take_of_length_le (by omega)
   have hii : ¬ (i : Int) < (s.length : Int) := by omega
   rw [e]
   clear hk2 ho
   repeat' (first | (refine Qr rfl ?_; try intro _ hK; try simp only [go_sem, *]) | refine Qh rfl ?_ | (refine Qc rfl rfl ?_ ?_ <;> (intro hb; have hc := hb; try simp only [go_sem] at hc)) | refine q8 rfl ?_ | ((with_reducible apply And.intro); focus omega) | (refine q7 hK ?_; clear hK; simp only [go_sem, *]) | simp only [q6, z8, go_sem, *])
   all_goals first | contradiction | omega | skip
   (refine ⟨[_], [], [], ⟨rfl, trivial⟩, ?_⟩; simp only [go_sem, *])
 ·rw [hla] at sl
  have hk := zAT (v.latin hla)
  rw [hk]
  clear hla hk
  refine q9 func84 rfl (fun E hE => ?_); simp only [go_sem, ntmps84]
  repeat' (first | (refine Qr rfl ?_; try intro _ hK; try simp only [go_sem, *]) | refine Qh rfl ?_ | (refine Qc rfl rfl ?_ ?_ <;> (intro hb; have hc := hb; try simp only [go_sem] at hc)) | refine q8 rfl ?_ | (refine y5 (sl) ?_; simp only [go_sem, *]) | ((with_reducible apply And.intro); focus omega) | (refine q7 hK ?_; clear hK; simp only [go_sem, *]) | simp only [q6, z8, go_sem, *])
  all_goals try contradiction
  (refine ⟨[_], [], [], ⟨rfl, trivial⟩, ?_⟩; simp only [go_sem, *])
end Go.Abs

namespace Go.Abs
open Go Go.Proofs Tryz
attribute [local irreducible] y6 Hold x5
def zNb (a b : Str) : Bool := decide (x9 a b < 0)
theorem zDa (a b : Str) (va : ValidN a) (vb : ValidN b) : zMf prog 105 [sV a, sV b] [] (bV (zNb a b)) [] := by
 have ka := zDb a va
 have kb := zDb b vb
 have la := zA5 a va.ne
 have lb := zA5 b vb.ne
 have e : zNb a b = V6 a b := by
  unfold zNb
  rw [Bool.eq_iff_iff, decide_eq_true_eq]; exact A8 va vb
 rw [e]
 unfold V6 u0
 clear e va vb
 generalize y9 (a.getD 0 0) = ja at *
 generalize y9 (b.getD 0 0) = jb at *
 generalize zMh a = x at *
 generalize zMh b = y at *
 by_cases q : x = y
 ·rw [if_pos q]
  subst q
  have hb : (!(x == x)) = false := by simp
  refine q9 func105 rfl (fun E hE => ?_); simp only [go_sem, ntmps105]
  repeat' (first | (refine Qr rfl ?_; try intro _ hK; try simp only [go_sem, *]) | (refine Qi rfl rfl rfl rfl ?_ ?_ <;> (intro hb; (try intro _ hK); have hc := hb; try simp only [go_sem] at hc; simp only [go_sem, *])) | refine Qh rfl ?_ | (refine Qc rfl rfl ?_ ?_ <;> (intro hb; have hc := hb; try simp only [go_sem] at hc)) | refine q8 rfl ?_ | ((first | refine y5 (la) ?_ | refine y5 (lb) ?_); simp only [go_sem, *]) | (refine p9 (ka) ?_ ?_; (focus (simp only [go_sem, *]; done)); simp only [go_sem, *]) | (refine p9 (kb) ?_ ?_; (focus (simp only [go_sem, *]; done)); simp only [go_sem, *]) | ((with_reducible apply And.intro); focus omega) | (refine q7 hK ?_; clear hK; simp only [go_sem, *]) | simp only [q6, z8, go_sem, *])
  all_goals try contradiction
  all_goals (refine ⟨[_], [], [], ⟨rfl, trivial⟩, ?_⟩; simp only [go_sem, *])
 ·rw [if_neg q]
  have hb : (!(x == y)) = true := by simpa using q
  clear q la lb
  refine q9 func105 rfl (fun E hE => ?_); simp only [go_sem, ntmps105]
  repeat' (first | (refine Qr rfl ?_; try intro _ hK; try simp only [go_sem, *]) | (refine Qi rfl rfl rfl rfl ?_ ?_ <;> (intro hb; (try intro _ hK); have hc := hb; try simp only [go_sem] at hc; simp only [go_sem, *])) | refine Qh rfl ?_ | (refine Qc rfl rfl ?_ ?_ <;> (intro hb; have hc := hb; try simp only [go_sem] at hc)) | refine q8 rfl ?_ | (refine p9 (ka) ?_ ?_; (focus (simp only [go_sem, *]; done)); simp only [go_sem, *]) | (refine p9 (kb) ?_ ?_; (focus (simp only [go_sem, *]; done)); simp only [go_sem, *]) | ((with_reducible apply And.intro); focus omega) | (refine q7 hK ?_; clear hK; simp only [go_sem, *]) | simp only [q6, z8, go_sem, *])
  all_goals try contradiction
  (refine ⟨[_], [], [], ⟨rfl, trivial⟩, ?_⟩; simp only [go_sem, *])
theorem zMS (a b : Str) (ha : a.length ≤ 4294967296) (hb : b.length ≤ 4294967296) : zMf prog 61 [sV a, sV b] [] (.tup [iV (if X9 a b = 0 then x9 a b else 0), iV (X9 a b)]) [] := by
 have ca := zA4 a ha
 have cb := zA4 b hb
 have e : X9 a b = if x6 a = 0 then x6 b else x6 a := D2 a b
 by_cases q1 : x6 a = 0
 ·rw [if_pos q1] at e
  by_cases q2 : x6 b = 0
  ·have va := checkN_zero.1 q1
   have vb := checkN_zero.1 q2
   have s1 := zDa a b va vb
   have s2 := zDa b a vb va
   have h1 := zEl a b
   have h2 := zBh a b
   rw [e, q2, if_pos rfl]
   rw [q1] at ca
   rw [q2] at cb
   unfold zNb at s1 s2
   rw [h2] at s2
   generalize x9 a b = c at *
   clear e q1 q2 va vb h2
   rcases (by omega : c = -1 ∨ c = 0 ∨ c = 1) with rfl | rfl | rfl
   ·have s1 : zMf prog 105 [sV a, sV b] [] (bV true) [] := s1
    clear s2
    refine q9 func61 rfl (fun E hE => ?_); simp only [go_sem, ntmps61]
    repeat' (first | (refine Qr rfl ?_; try intro _ hK; try simp only [go_sem, *]) | refine Qh rfl ?_ | (refine Qc rfl rfl ?_ ?_ <;> (intro hb; have hc := hb; try simp only [go_sem] at hc)) | refine q8 rfl ?_ | ((first | refine y5 (ca) ?_ | refine y5 (cb) ?_ | refine y5 (s1) ?_); simp only [go_sem, *]) | ((with_reducible apply And.intro); focus omega) | (refine q7 hK ?_; clear hK; simp only [go_sem, *]) | simp only [q6, z8, go_sem, *])
    all_goals try contradiction
    (refine ⟨[_, _], [], [], ⟨rfl, rfl, trivial⟩, ?_⟩; simp only [go_sem, *])
   ·have s1 : zMf prog 105 [sV a, sV b] [] (bV false) [] := s1
    have s2 : zMf prog 105 [sV b, sV a] [] (bV false) [] := s2
    refine q9 func61 rfl (fun E hE => ?_); simp only [go_sem, ntmps61]
    repeat' (first | (refine Qr rfl ?_; try intro _ hK; try simp only [go_sem, *]) | refine Qh rfl ?_ | (refine Qc rfl rfl ?_ ?_ <;> (intro hb; have hc := hb; try simp only [go_sem] at hc)) | refine q8 rfl ?_ | ((first | refine y5 (ca) ?_ | refine y5 (cb) ?_ | refine y5 (s1) ?_ | refine y5 (s2) ?_); simp only [go_sem, *]) | ((with_reducible apply And.intro); focus omega) | (refine q7 hK ?_; clear hK; simp only [go_sem, *]) | simp only [q6, z8, go_sem, *])
    all_goals try contradiction
    (refine ⟨[_, _], [], [], ⟨rfl, rfl, trivial⟩, ?_⟩; simp only [go_sem, *])
   ·have s1 : zMf prog 105 [sV a, sV b] [] (bV false) [] := s1
    have s2 : zMf prog 105 [sV b, sV a] [] (bV true) [] := s2
    refine q9 func61 rfl (fun E hE => ?_); simp only [go_sem, ntmps61]
    repeat' (first | (refine Qr rfl ?_; try intro _ hK; try simp only [go_sem, *]) | refine Qh rfl ?_ | (refine Qc rfl rfl ?_ ?_ <;> (intro hb; have hc := hb; try simp only [go_sem] at hc)) | refine q8 rfl ?_ | ((first | refine y5 (ca) ?_ | refine y5 (cb) ?_ | refine y5 (s1) ?_ | refine y5 (s2) ?_); simp only [go_sem, *]) | ((with_reducible apply And.intro); focus omega) | (refine q7 hK ?_; clear hK; simp only [go_sem, *]) | simp only [q6, z8, go_sem, *])
    all_goals try contradiction
    (refine ⟨[_, _], [], [], ⟨rfl, rfl, trivial⟩, ?_⟩; simp only [go_sem, *])
  ·rw [e, if_neg q2]
   rw [q1] at ca
   generalize x6 b = c at *
   clear e q1
   refine q9 func61 rfl (fun E hE => ?_); simp only [go_sem, ntmps61]
   repeat' (first | (refine Qr rfl ?_; try intro _ hK; try simp only [go_sem, *]) | refine Qh rfl ?_ | (refine Qc rfl rfl ?_ ?_ <;> (intro hb; have hc := hb; try simp only [go_sem] at hc)) | refine q8 rfl ?_ | ((first | refine y5 (ca) ?_ | refine y5 (cb) ?_); simp only [go_sem, *]) | ((with_reducible apply And.intro); focus omega) | (refine q7 hK ?_; clear hK; simp only [go_sem, *]) | simp only [q6, z8, go_sem, *])
   all_goals try contradiction
   (refine ⟨[_, _], [], [], ⟨rfl, rfl, trivial⟩, ?_⟩; simp only [go_sem, *])
 ·rw [if_neg q1] at e
  rw [e, if_neg q1]
  generalize x6 a = c at *
  clear e cb
  refine q9 func61 rfl (fun E hE => ?_); simp only [go_sem, ntmps61]
  repeat' (first | (refine Qr rfl ?_; try intro _ hK; try simp only [go_sem, *]) | refine Qh rfl ?_ | (refine Qc rfl rfl ?_ ?_ <;> (intro hb; have hc := hb; try simp only [go_sem] at hc)) | refine q8 rfl ?_ | (refine y5 (ca) ?_; simp only [go_sem, *]) | ((with_reducible apply And.intro); focus omega) | (refine q7 hK ?_; clear hK; simp only [go_sem, *]) | simp only [q6, z8, go_sem, *])
  all_goals try contradiction
  (refine ⟨[_, _], [], [], ⟨rfl, rfl, trivial⟩, ?_⟩; simp only [go_sem, *])
theorem zGf {l : List Str} {i : Nat} (hi : i < l.length) : u7 (l.drop i) = if x6 (l.getD i default) = 0 then u7 (l.drop (i + 1)) else x6 (l.getD i default) := by
 rw [j4 hi, u7]
theorem zMT (l : List Str) (hl : l.length ≤ 4294967296) (hx : ∀ s, s ∈ l → s.length ≤ 4294967296) : zMf prog 81 [y8 l] [] (iV (v8 l)) [] := by
 unfold v8
 by_cases q : 6 < l.length
 ·rw [if_pos q]
  have qi : (l.length : Int) > 6 := by omega
  refine q9 func81 rfl (fun E hE => ?_); simp only [go_sem, ntmps81]
  repeat' (first | (refine Qr rfl ?_; try intro _ hK; try simp only [go_sem, *]) | refine Qh rfl ?_ | (refine Qc rfl rfl ?_ ?_ <;> (intro hb; have hc := hb; try simp only [go_sem] at hc)) | refine q8 rfl ?_ | ((with_reducible apply And.intro); focus omega) | (refine q7 hK ?_; clear hK; simp only [go_sem, *]) | simp only [q6, z8, go_sem, *])
  all_goals first | contradiction | omega | skip
  (refine ⟨[_], [], [], ⟨rfl, trivial⟩, ?_⟩; simp only [go_sem, *])
 ·rw [if_neg q]
  have qi : ¬ (l.length : Int) > 6 := by omega
  obtain ⟨R, hR⟩ : ∃ R, u7 l = R := ⟨_, rfl⟩
  rw [hR]
  have h0 : u7 (l.drop 0) = R := hR
  clear hR
  refine q9 func81 rfl (fun E hE => ?_); simp only [go_sem, ntmps81]
  repeat' (first | (refine Qr rfl ?_; try intro _ hK; try simp only [go_sem, *]) | refine Qh rfl ?_ | (refine Qc rfl rfl ?_ ?_ <;> (intro hb; have hc := hb; try simp only [go_sem] at hc)) | refine q8 rfl ?_ | ((with_reducible apply And.intro); focus omega) | (refine q7 hK ?_; clear hK; simp only [go_sem, *]) | simp only [q6, z8, go_sem, *])
  all_goals first | contradiction | omega | skip
  refine o9 rfl (l.length) (fun i => u7 (l.drop i) = R) 22 (fun i => [(3, iV i), (0, y8 l)]) (fun i => []) [] [] (by exact h0) ?_; intro i hi hP
  clear h0
  by_cases hi2 : i < l.length
  ·have hii : (i : Int) < (l.length : Int) := by omega
   have hwi : IntKind.i64.wrap ((i : Int) + 1) = ((i + 1 : Nat) : Int) := r7 (by omega)
   rw [zGf hi2] at hP
   have sc := zA4 _ (hx _ (j9 hi2))
   by_cases q2 : x6 (l.getD i default) = 0
   ·rw [if_pos q2] at hP
    rw [q2] at sc
    clear q2
    repeat' (first | (refine Qr rfl ?_; try intro _ hK; try simp only [go_sem, *]) | refine Qh rfl ?_ | (refine Qc rfl rfl ?_ ?_ <;> (intro hb; have hc := hb; try simp only [go_sem] at hc)) | refine q8 rfl ?_ | (refine y5 (sc) ?_; simp only [go_sem, *]) | ((with_reducible apply And.intro); focus omega) | (refine q7 hK ?_; clear hK; simp only [go_sem, *]) | simp only [q6, z8, go_sem, *])
    all_goals first | contradiction | omega | skip
    exact f8 (i' := i + 1) [] [] (by exact hP)
   ·rw [if_neg q2] at hP
    subst hP
    generalize x6 (l.getD i default) = e at *
    repeat' (first | (refine Qr rfl ?_; try intro _ hK; try simp only [go_sem, *]) | refine Qh rfl ?_ | (refine Qc rfl rfl ?_ ?_ <;> (intro hb; have hc := hb; try simp only [go_sem] at hc)) | refine q8 rfl ?_ | (refine y5 (sc) ?_; simp only [go_sem, *]) | ((with_reducible apply And.intro); focus omega) | (refine q7 hK ?_; clear hK; simp only [go_sem, *]) | simp only [q6, z8, go_sem, *])
    all_goals first | contradiction | omega | skip
    (refine ⟨[_], [], [], ⟨rfl, trivial⟩, ?_⟩; simp only [go_sem, *])
  ·have hii : ¬ (i : Int) < (l.length : Int) := by omega
   rw [d7 (by omega)] at hP
   have hP : 0 = R := hP
   subst hP
   repeat' (first | (refine Qr rfl ?_; try intro _ hK; try simp only [go_sem, *]) | refine Qh rfl ?_ | (refine Qc rfl rfl ?_ ?_ <;> (intro hb; have hc := hb; try simp only [go_sem] at hc)) | refine q8 rfl ?_ | ((with_reducible apply And.intro); focus omega) | (refine q7 hK ?_; clear hK; simp only [go_sem, *]) | simp only [q6, z8, go_sem, *])
   all_goals first | contradiction | omega | skip
   (refine ⟨[_], [], [], ⟨rfl, trivial⟩, ?_⟩; simp only [go_sem, *])
end Go.Abs

namespace Go.Abs
open Go Go.Proofs Tryz
end Go.Abs

namespace Go.Abs
open Go Go.Proofs Tryz
attribute [local irreducible] y6 Hold x5
def zGv (n : Nat) (k : Str) (c : UInt8) : List Str := if (w8 c).isPrefixOf k = true then (zC1 n (k.drop (w8 c).length)).map (c :: ·) else []
def zLb (n : Nat) (k : Str) (t : Nat) : List Str := (zGw t).flatMap (zGv n k)
end Go.Abs

namespace Go.Abs
open Go Go.Proofs Tryz
structure Stop (p : Prop) : Prop where
 it : p
theorem zMV {P : Program} {E : Env} {b : Code} {Q : Exit → AS → Prop} {σ : AS} (p : List Nat) (h : Stop (Hold P E (sub p b) Q σ)) : Hold P E (sub p b) Q σ := h.it
theorem zCu : ∀ {l : List Str}, (∀ s, s ∈ l → ValidN s) → u7 l = 0
 | [], _ => rfl
 | x :: r, h => by
  rw [u7, if_pos (checkN_zero.2 (h x (by simp))), zCu (l := r) (fun s hs => h s (by simp [hs]))]
theorem zKw {l : List Str} (hv : ∀ s, s ∈ l → ValidN s) (h6 : l.length ≤ 6) : v8 l = 0 := by
 unfold v8
 rw [if_neg (by omega), zCu hv]
abbrev b6 (d : Dice) : Prop := d.list.length ≤ 4294967296
theorem zK5 (d : Dice) (many most : Int) (h : b6 d) (hm : 0 ≤ many ∧ many ≤ 1000) (h1 : 1 ≤ most ∧ most ≤ 1000) : ∃ (l : List Str) (d' : Dice), zMf prog 24 [.ptr 0 0, iV many, iV most] [u6 d] (.own 1 1 0 l.length) [u6 d', .row 1 (l.map sV)] ∧
  (∀ s, s ∈ l → ValidN s) ∧ (l.length : Int) ≤ many ∧ b6 d' := by
 obtain ⟨a, b, c⟩ := zGi (d := d) hm.1 h1.1
 exact ⟨_, _, zHy d many most h hm h1, fun s hs => (a s hs).1, b, by unfold b6; rw [c]; exact h⟩
theorem zK4 (d : Dice) (most : Int) (h : b6 d) (h1 : 1 ≤ most ∧ most ≤ 1000) : ∃ (s : Str) (d' : Dice), zMf prog 25 [.ptr 0 0, iV most] [u6 d] (sV s) [u6 d'] ∧ ValidN s ∧ b6 d' := by
 obtain ⟨a, b, c⟩ := zAk (d := d) h1.1
 exact ⟨_, _, zDT d most h h1, a, by unfold b6; rw [c]; exact h⟩
theorem zMb (d : Dice) (n : Int) (h : b6 d) (hn : 0 ≤ n ∧ n ≤ 4294967296) : ∃ (k : Nat) (d' : Dice), zMf prog 26 [.ptr 0 0, iV n] [u6 d] (iV k) [u6 d'] ∧ (k : Int) ≤ n ∧ b6 d' := by
 have hle := e8 hn.1 d
 obtain ⟨k, hk⟩ : ∃ k : Nat, toN n d = k := ⟨_, (Int.toNat_of_nonneg hle.1).symm⟩
 refine ⟨k, toD n d, ?_, by omega, by unfold b6; rw [o3]; exact h⟩
 have := X4 d n h hn.2
 rwa [hk] at this
theorem zL9 (d : Dice) (many : Int) (h : b6 d) (hm : 0 ≤ many ∧ many ≤ 4) : ∃ (r : List Rule) (d' : Dice), zMf prog 35 [.ptr 0 0, iV many] [u6 d] (.own 1 2 0 r.length) [u6 d', .row 2 (r.map Rule.enc)] ∧
  o5 r = 0 ∧ (r.length : Int) ≤ many ∧ b6 d' := by
 obtain ⟨a, b, c⟩ := zHJ (d := d) hm
 exact ⟨_, _, zH0 d many h (by omega), a, b, by unfold b6; rw [c]; exact h⟩
theorem zJ7 (l : List Int) (h : l.length ≤ 4294967296) : ∃ d : Dice, zMf prog 23 [R5 l] [] (.ptr 0 0) [u6 d] ∧ b6 d := ⟨_, zHz l, h⟩
theorem zK2 {l : List Str} {x : Str} (hv : ∀ s, s ∈ l → ValidN s) (v : ValidN x) : ∃ m : List Str, l.map sV ++ [sV x] = m.map sV ∧ m.length = l.length + 1 ∧ (∀ s, s ∈ m → ValidN s) ∧ m = l ++ [x] :=
 ⟨l ++ [x], by simp, by simp, fun s hs => by
  rcases List.mem_append.1 hs with hs | hs
  ·exact hv s hs
  ·rw [List.mem_singleton.1 hs]; exact v, rfl⟩
end Go.Abs

namespace Go.Abs
open Go Go.Proofs Tryz
attribute [local irreducible] y6 Hold x5
end Go.Abs

namespace Go.Abs
open Go Go.Proofs Tryz
attribute [local irreducible] y6 Hold x5
def zNL (s : Str) : Bool := decide (20 < s.length)
def zAc (l : List Str) : Bool := l.any zNL || decide (20 < l.length)
theorem zMR (l : List Str) (hl : l.length ≤ 4294967296) : zMf prog 21 [.raw (.slice none 0 0), y8 l] [] (bV (zAc l)) [] := by
 obtain ⟨R, hR⟩ : ∃ R, l.any zNL = R := ⟨_, rfl⟩
 have e : zAc l = (R || decide (20 < l.length)) := by unfold zAc; rw [hR]
 rw [e]
 have h0 : (l.drop 0).any zNL = R := hR
 clear hR e
 refine q9 func21 rfl (fun E hE => ?_); simp only [go_sem, ntmps21]
 repeat' (first | (refine Qr rfl ?_; try intro _ hK; try simp only [go_sem, *]) | (refine Qi rfl rfl rfl rfl ?_ ?_ <;> (intro hb; (try intro _ hK); have hc := hb; try simp only [go_sem] at hc; simp only [go_sem, *])) | refine Qh rfl ?_ | refine Qd rfl (by kernel_rfl) ?_ | (refine Qc rfl rfl ?_ ?_ <;> (intro hb; have hc := hb; try simp only [go_sem] at hc)) | refine q8 rfl ?_ | (refine Qb ?_ ?_; focus kernel_rfl) | ((with_reducible apply And.intro); focus omega) | (refine q7 hK ?_; clear hK; simp only [go_sem, *]) | simp only [q6, z8, go_sem, *])
 refine o9 rfl (l.length) (fun i => (l.drop i).any zNL = R) 47 (fun i => [(5, iV i), (0, .raw (.slice none 0 0)), (1, y8 l)]) (fun i => []) [] [] (by exact h0) ?_; intro i hi hP
 clear h0
 by_cases hi2 : i < l.length
 ·have hii : (i : Int) < (l.length : Int) := by omega
  have hwi : IntKind.i64.wrap ((i : Int) + 1) = ((i + 1 : Nat) : Int) := r7 (by omega)
  rw [j4 hi2, List.any_cons] at hP
  generalize hxe : l.getD i default = x at *
  by_cases q : 20 < x.length
  ·have e1 : zNL x = true := decide_eq_true q
   rw [e1] at hP
   have hP : true = R := hP
   subst hP
   have qi : (x.length : Int) > 20 := by omega
   clear e1
   repeat' (first | (refine Qr rfl ?_; try intro _ hK; try simp only [go_sem, *]) | (refine Qi rfl rfl rfl rfl ?_ ?_ <;> (intro hb; (try intro _ hK); have hc := hb; try simp only [go_sem] at hc; simp only [go_sem, *])) | refine Qh rfl ?_ | refine Qd rfl (by kernel_rfl) ?_ | (refine Qc rfl rfl ?_ ?_ <;> (intro hb; have hc := hb; try simp only [go_sem] at hc)) | refine q8 rfl ?_ | (refine Qb ?_ ?_; focus kernel_rfl) | ((with_reducible apply And.intro); focus omega) | (refine q7 hK ?_; clear hK; simp only [go_sem, *]) | simp only [q6, z8, go_sem, *])
   all_goals first | contradiction | omega | skip
   (refine ⟨[_], [], [], ⟨rfl, trivial⟩, ?_⟩; simp only [go_sem, *])
  ·have e1 : zNL x = false := decide_eq_false q
   rw [e1] at hP
   have hP : (l.drop (i + 1)).any zNL = R := hP
   have qi : ¬ (x.length : Int) > 20 := by omega
   clear e1
   repeat' (first | (refine Qr rfl ?_; try intro _ hK; try simp only [go_sem, *]) | (refine Qi rfl rfl rfl rfl ?_ ?_ <;> (intro hb; (try intro _ hK); have hc := hb; try simp only [go_sem] at hc; simp only [go_sem, *])) | refine Qh rfl ?_ | refine Qd rfl (by kernel_rfl) ?_ | (refine Qc rfl rfl ?_ ?_ <;> (intro hb; have hc := hb; try simp only [go_sem] at hc)) | refine q8 rfl ?_ | (refine Qb ?_ ?_; focus kernel_rfl) | ((with_reducible apply And.intro); focus omega) | (refine q7 hK ?_; clear hK; simp only [go_sem, *]) | simp only [q6, z8, go_sem, *])
   all_goals first | contradiction | omega | skip
   exact f8 (i' := i + 1) [] [] (by exact hP)
 ·have hii : ¬ (i : Int) < (l.length : Int) := by omega
  rw [d7 (by omega)] at hP
  have hP : false = R := hP
  subst hP
  repeat' (first | (refine Qr rfl ?_; try intro _ hK; try simp only [go_sem, *]) | (refine Qi rfl rfl rfl rfl ?_ ?_ <;> (intro hb; (try intro _ hK); have hc := hb; try simp only [go_sem] at hc; simp only [go_sem, *])) | refine Qh rfl ?_ | refine Qd rfl (by kernel_rfl) ?_ | (refine Qc rfl rfl ?_ ?_ <;> (intro hb; have hc := hb; try simp only [go_sem] at hc)) | refine q8 rfl ?_ | (refine Qb ?_ ?_; focus kernel_rfl) | ((with_reducible apply And.intro); focus omega) | (refine q7 hK ?_; clear hK; simp only [go_sem, *]) | simp only [q6, z8, go_sem, *])
  all_goals first | contradiction | omega | skip
  refine o9 rfl (1) (fun j => NoQ j) 47 (fun j => [(6, iV 0), (0, .raw (.slice none 0 0)), (1, y8 l)]) (fun j => []) [] [] (by trivial) ?_; intro j hj hQ
  by_cases q : 20 < l.length
  ·have qi : (l.length : Int) > 20 := by omega
   repeat' (first | (refine Qr rfl ?_; try intro _ hK; try simp only [go_sem, *]) | (refine Qi rfl rfl rfl rfl ?_ ?_ <;> (intro hb; (try intro _ hK); have hc := hb; try simp only [go_sem] at hc; simp only [go_sem, *])) | refine Qh rfl ?_ | refine Qd rfl (by kernel_rfl) ?_ | (refine Qc rfl rfl ?_ ?_ <;> (intro hb; have hc := hb; try simp only [go_sem] at hc)) | refine q8 rfl ?_ | (refine Qb ?_ ?_; focus kernel_rfl) | ((with_reducible apply And.intro); focus omega) | (refine q7 hK ?_; clear hK; simp only [go_sem, *]) | simp only [q6, z8, go_sem, *])
   all_goals first | contradiction | omega | skip
   (refine ⟨[_], [], [], ⟨rfl, trivial⟩, ?_⟩; simp only [go_sem, *])
  ·have qi : ¬ (l.length : Int) > 20 := by omega
   repeat' (first | (refine Qr rfl ?_; try intro _ hK; try simp only [go_sem, *]) | (refine Qi rfl rfl rfl rfl ?_ ?_ <;> (intro hb; (try intro _ hK); have hc := hb; try simp only [go_sem] at hc; simp only [go_sem, *])) | refine Qh rfl ?_ | refine Qd rfl (by kernel_rfl) ?_ | (refine Qc rfl rfl ?_ ?_ <;> (intro hb; have hc := hb; try simp only [go_sem] at hc)) | refine q8 rfl ?_ | (refine Qb ?_ ?_; focus kernel_rfl) | ((with_reducible apply And.intro); focus omega) | (refine q7 hK ?_; clear hK; simp only [go_sem, *]) | simp only [q6, z8, go_sem, *])
   all_goals first | contradiction | omega | skip
   (refine ⟨[_], [], [], ⟨rfl, trivial⟩, ?_⟩; simp only [go_sem, *])
end Go.Abs

