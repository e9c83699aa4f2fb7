/-
  WHAT THE PROOF STANDS ON, PART 5: contracts of the program's functions and the logic that they are proved in. No condition.
-/
import Derived.Test.YtmhleaopjcfjnaaGreatQ4
set_option maxRecDepth 100000
set_option maxHeartbeats 4000000
set_option linter.unusedVariables false
set_option linter.unusedSimpArgs false
set_option linter.unusedSectionVars false
namespace Go.Abs
open Go Go.Proofs Tryz
attribute [local irreducible] z3 Hold q7
theorem zDS (d : Dice) (p : zLI) (k s : Int) : (K9 d p k s).2.list = d.list := by
 unfold K9 w7
 split
 ·exact p8 _ _
 ·split
  ·simp only
   split <;> simp only [zAI, p8]
  ·split
   ·simp only [zAI]
   ·rfl
theorem zI4 (d : Dice) (p : zLI) : (N0 d p).2.list = d.list := by
 unfold N0 w7; rw [zDS, p8, p8]
theorem zK0 (d : Dice) (p : zLI) (h : d.list.length ≤ 4294967296) (v : Valid p) :
  zLJ prog 23 [.ptr 0 0, y5 p] [u9 d] (Change.enc (N0 d p).1) [u9 (N0 d p).2] := by
 have hp0 := v.ne
 have hp3 := v.len
 have s1 := W0 d 1 7 h (by omega) (by omega)
 have s2 := L5 (w7 1 7 d) ((p.length : Int) - 1) (by unfold w7; rw [p8]; exact h) (by omega)
 have hr1 := X0 (lo := 1) (hi := 7) (by omega) d
 have hr2 := zAW (n := (p.length : Int) - 1) (by omega) (w7 1 7 d)
 have hl2 : (toD ((p.length : Int) - 1) (w7 1 7 d)).list.length ≤ 4294967296 := by unfold w7; rw [p8, p8]; exact h
 have hw0 : IntKind.i64.wrap ((p.length : Int) - 1) = (p.length : Int) - 1 := wrap_i64 (by omega) (by omega)
 unfold N0
 obtain ⟨s, hs⟩ : ∃ s : Nat, toN ((p.length : Int) - 1) (w7 1 7 d) = s := ⟨(toN ((p.length : Int) - 1) (w7 1 7 d)).toNat, by omega⟩
 rw [hs] at hr2 s2 ⊢
 clear hs
 generalize toD ((p.length : Int) - 1) (w7 1 7 d) = d2 at *
 generalize w7 1 7 d = d1 at *
 generalize u1 1 7 d = k at *
 have hsl : s < p.length := by omega
 have hrow : (z9 p (s : Int)).length ≤ 8 := (v.row _).len
 have hgd : List.getD p s default = z9 p (s : Int) := rfl
 unfold K9
 by_cases k4 : k = 4
 ·rw [if_pos k4]
  subst k4
  have s3 := W0 d2 1 2 hl2 (by omega) (by omega)
  have hr3 := X0 (lo := 1) (hi := 2) (by omega) d2
  generalize u1 1 2 d2 = x at *
  generalize w7 1 2 d2 = d3 at *
  have s4 := zCL ((s : Int) + x) (p.length : Int) (by omega) (by omega)
  have hw1 : IntKind.i64.wrap ((s : Int) + x) = (s : Int) + x := wrap_i64 (by omega) (by omega)
  generalize ((s : Int) + x) % (p.length : Int) = o at *
  refine y3 func23 rfl (fun E hE => ?_); simp only [go_sem, ntmps23]
  repeat' (first | (show z3 ..; first | (refine Qr rfl ?_; try intro _ hK; try simp only [go_sem, *])) | (show Hold ..; first | refine Qh rfl ?_ | refine q6 rfl mixed (by kernel_rfl) ?_ | (refine z7 rfl ⟨_, rfl, fun hb => ?_, fun hb => ?_⟩ <;> (have hc := hb; try simp only [go_sem] at hc)) | refine z8 rfl ?_) | (refine Qb ?_ ?_; focus kernel_rfl) | (show q7 ..; first | (refine x8 [0] [] (s1) (by simp) ?_ ?_ (by simp) (.inl rfl) ?_ ?_ ?_; (focus (simp only [go_sem, *]; done)); (focus (simp only [go_sem, *]; done)); (focus (first | (simp; done) | (simp [go_sem]; done))); (focus (first | (simp; done) | (simp [go_sem]; done))); simp only [go_sem, *]) | (refine x8 [0] [] (s2) (by simp) ?_ ?_ (by simp) (.inl rfl) ?_ ?_ ?_; (focus (simp only [go_sem, *]; done)); (focus (simp only [go_sem, *]; done)); (focus (first | (simp; done) | (simp [go_sem]; done))); (focus (first | (simp; done) | (simp [go_sem]; done))); simp only [go_sem, *]) | (refine x8 [0] [] (s3) (by simp) ?_ ?_ (by simp) (.inl rfl) ?_ ?_ ?_; (focus (simp only [go_sem, *]; done)); (focus (simp only [go_sem, *]; done)); (focus (first | (simp; done) | (simp [go_sem]; done))); (focus (first | (simp; done) | (simp [go_sem]; done))); simp only [go_sem, *]) | (refine q8 (s4) ?_ ?_; (focus (simp only [go_sem, *]; done)); simp only [go_sem, *])) | ((with_reducible refine And.intro ?_ ?_); focus omega) | (refine z6 hK ?_; clear hK; simp only [go_sem, *]) | (simp only [z5, z4, go_sem, *]))
  all_goals try contradiction
  refine ⟨[.agg [iV 4, iV s, iV o, iV 0, iV 0, iV 0, iV 0]], [some 0], [], ⟨by simp only [x9, go_sem], trivial⟩, ?_⟩
  simp only [go_sem, zeroPlate, *]
 rw [if_neg k4]
 have k4' : (k == 4) = false := by rw [beq_eq_false_iff_ne]; exact k4
 by_cases k7 : k = 7
 ·rw [if_pos k7]
  subst k7
  have s3 := W0 d2 1 2 hl2 (by omega) (by omega)
  have hr3 := X0 (lo := 1) (hi := 2) (by omega) d2
  have hl3 : (w7 1 2 d2).list.length ≤ 4294967296 := by unfold w7; rw [p8]; exact hl2
  generalize u1 1 2 d2 = x at *
  generalize w7 1 2 d2 = d3 at *
  have s4 := zCL ((s : Int) + x) (p.length : Int) (by omega) (by omega)
  have hw1 : IntKind.i64.wrap ((s : Int) + x) = (s : Int) + x := wrap_i64 (by omega) (by omega)
  generalize ((s : Int) + x) % (p.length : Int) = o at *
  simp only
  have sa := zAS d3 (z9 p (s : Int)) hl3 (by omega)
  have hla : (l5 d3 (z9 p (s : Int))).2.list.length ≤ 4294967296 := by rw [zAI]; exact hl3
  generalize l5 d3 (z9 p (s : Int)) = A at *
  obtain ⟨a, d4⟩ := A
  simp only at sa hla ⊢
  have sb := zAS d4 (z9 p (s : Int)) hla (by omega)
  generalize l5 d4 (z9 p (s : Int)) = B at *
  obtain ⟨b, d5⟩ := B
  simp only at sb ⊢
  have sc := zCP b a
  by_cases hlt : b.lt a = true
  ·rw [if_pos hlt]
   rw [hlt] at sc
   clear hlt
   refine y3 func23 rfl (fun E hE => ?_); simp only [go_sem, ntmps23]
   repeat' (first | (show z3 ..; first | (refine Qr rfl ?_; try intro _ hK; try simp only [go_sem, *])) | (show Hold ..; first | refine Qh rfl ?_ | refine q6 rfl mixed (by kernel_rfl) ?_ | (refine z7 rfl ⟨_, rfl, fun hb => ?_, fun hb => ?_⟩ <;> (have hc := hb; try simp only [go_sem] at hc)) | refine z8 rfl ?_) | (refine Qb ?_ ?_; focus kernel_rfl) | (show q7 ..; first | ((first | refine q8 (s4) ?_ ?_ | refine q8 (sc) ?_ ?_); (focus (simp only [go_sem, *]; done)); simp only [go_sem, *]) | (refine x8 [0] [] (s1) (by simp) ?_ ?_ (by simp) (.inl rfl) ?_ ?_ ?_; (focus (simp only [go_sem, *]; done)); (focus (simp only [go_sem, *]; done)); (focus (first | (simp; done) | (simp [go_sem]; done))); (focus (first | (simp; done) | (simp [go_sem]; done))); simp only [go_sem, *]) | (refine x8 [0] [] (s2) (by simp) ?_ ?_ (by simp) (.inl rfl) ?_ ?_ ?_; (focus (simp only [go_sem, *]; done)); (focus (simp only [go_sem, *]; done)); (focus (first | (simp; done) | (simp [go_sem]; done))); (focus (first | (simp; done) | (simp [go_sem]; done))); simp only [go_sem, *]) | (refine x8 [0] [] (s3) (by simp) ?_ ?_ (by simp) (.inl rfl) ?_ ?_ ?_; (focus (simp only [go_sem, *]; done)); (focus (simp only [go_sem, *]; done)); (focus (first | (simp; done) | (simp [go_sem]; done))); (focus (first | (simp; done) | (simp [go_sem]; done))); simp only [go_sem, *]) | (refine x8 [0] [] (sa) (by simp) ?_ ?_ (by simp) (.inl rfl) ?_ ?_ ?_; (focus (simp only [go_sem, *]; done)); (focus (simp only [go_sem, *]; done)); (focus (first | (simp; done) | (simp [go_sem]; done))); (focus (first | (simp; done) | (simp [go_sem]; done))); simp only [go_sem, *]) | (refine x8 [0] [] (sb) (by simp) ?_ ?_ (by simp) (.inl rfl) ?_ ?_ ?_; (focus (simp only [go_sem, *]; done)); (focus (simp only [go_sem, *]; done)); (focus (first | (simp; done) | (simp [go_sem]; done))); (focus (first | (simp; done) | (simp [go_sem]; done))); simp only [go_sem, *])) | ((with_reducible refine And.intro ?_ ?_); focus omega) | (refine z6 hK ?_; clear hK; simp only [go_sem, *]) | (simp only [z5, z4, go_sem, *]))
   all_goals try contradiction
   refine ⟨[.agg [iV 7, iV s, iV o, iV b.number, iV b.letter, iV a.number, iV a.letter]], [some 0], [], ⟨by simp only [x9, go_sem], trivial⟩, ?_⟩
   simp only [go_sem, zeroPlate, *]
  ·rw [if_neg hlt]
   rw [Bool.not_eq_true] at hlt
   rw [hlt] at sc
   clear hlt
   refine y3 func23 rfl (fun E hE => ?_); simp only [go_sem, ntmps23]
   repeat' (first | (show z3 ..; first | (refine Qr rfl ?_; try intro _ hK; try simp only [go_sem, *])) | (show Hold ..; first | refine Qh rfl ?_ | refine q6 rfl mixed (by kernel_rfl) ?_ | (refine z7 rfl ⟨_, rfl, fun hb => ?_, fun hb => ?_⟩ <;> (have hc := hb; try simp only [go_sem] at hc)) | refine z8 rfl ?_) | (refine Qb ?_ ?_; focus kernel_rfl) | (show q7 ..; first | ((first | refine q8 (s4) ?_ ?_ | refine q8 (sc) ?_ ?_); (focus (simp only [go_sem, *]; done)); simp only [go_sem, *]) | (refine x8 [0] [] (s1) (by simp) ?_ ?_ (by simp) (.inl rfl) ?_ ?_ ?_; (focus (simp only [go_sem, *]; done)); (focus (simp only [go_sem, *]; done)); (focus (first | (simp; done) | (simp [go_sem]; done))); (focus (first | (simp; done) | (simp [go_sem]; done))); simp only [go_sem, *]) | (refine x8 [0] [] (s2) (by simp) ?_ ?_ (by simp) (.inl rfl) ?_ ?_ ?_; (focus (simp only [go_sem, *]; done)); (focus (simp only [go_sem, *]; done)); (focus (first | (simp; done) | (simp [go_sem]; done))); (focus (first | (simp; done) | (simp [go_sem]; done))); simp only [go_sem, *]) | (refine x8 [0] [] (s3) (by simp) ?_ ?_ (by simp) (.inl rfl) ?_ ?_ ?_; (focus (simp only [go_sem, *]; done)); (focus (simp only [go_sem, *]; done)); (focus (first | (simp; done) | (simp [go_sem]; done))); (focus (first | (simp; done) | (simp [go_sem]; done))); simp only [go_sem, *]) | (refine x8 [0] [] (sa) (by simp) ?_ ?_ (by simp) (.inl rfl) ?_ ?_ ?_; (focus (simp only [go_sem, *]; done)); (focus (simp only [go_sem, *]; done)); (focus (first | (simp; done) | (simp [go_sem]; done))); (focus (first | (simp; done) | (simp [go_sem]; done))); simp only [go_sem, *]) | (refine x8 [0] [] (sb) (by simp) ?_ ?_ (by simp) (.inl rfl) ?_ ?_ ?_; (focus (simp only [go_sem, *]; done)); (focus (simp only [go_sem, *]; done)); (focus (first | (simp; done) | (simp [go_sem]; done))); (focus (first | (simp; done) | (simp [go_sem]; done))); simp only [go_sem, *])) | ((with_reducible refine And.intro ?_ ?_); focus omega) | (refine z6 hK ?_; clear hK; simp only [go_sem, *]) | (simp only [z5, z4, go_sem, *]))
   all_goals try contradiction
   refine ⟨[.agg [iV 7, iV s, iV o, iV a.number, iV a.letter, iV b.number, iV b.letter]], [some 0], [], ⟨by simp only [x9, go_sem], trivial⟩, ?_⟩
   simp only [go_sem, zeroPlate, *]
 rw [if_neg k7]
 have k7' : (k == 7) = false := by rw [beq_eq_false_iff_ne]; exact k7
 by_cases k56 : k = 5 ∨ k = 6
 ·rw [if_pos k56]
  simp only
  have sa := zAS d2 (z9 p (s : Int)) hl2 (by omega)
  generalize l5 d2 (z9 p (s : Int)) = A at *
  obtain ⟨a, d4⟩ := A
  simp only at sa ⊢
  rcases k56 with k5 | k6
  ·subst k5
   clear k4 k7
   refine y3 func23 rfl (fun E hE => ?_); simp only [go_sem, ntmps23]
   repeat' (first | (show z3 ..; first | (refine Qr rfl ?_; try intro _ hK; try simp only [go_sem, *])) | (show Hold ..; first | refine Qh rfl ?_ | refine q6 rfl mixed (by kernel_rfl) ?_ | (refine z7 rfl ⟨_, rfl, fun hb => ?_, fun hb => ?_⟩ <;> (have hc := hb; try simp only [go_sem] at hc)) | refine z8 rfl ?_) | (refine Qb ?_ ?_; focus kernel_rfl) | (show q7 ..; first | (refine x8 [0] [] (s1) (by simp) ?_ ?_ (by simp) (.inl rfl) ?_ ?_ ?_; (focus (simp only [go_sem, *]; done)); (focus (simp only [go_sem, *]; done)); (focus (first | (simp; done) | (simp [go_sem]; done))); (focus (first | (simp; done) | (simp [go_sem]; done))); simp only [go_sem, *]) | (refine x8 [0] [] (s2) (by simp) ?_ ?_ (by simp) (.inl rfl) ?_ ?_ ?_; (focus (simp only [go_sem, *]; done)); (focus (simp only [go_sem, *]; done)); (focus (first | (simp; done) | (simp [go_sem]; done))); (focus (first | (simp; done) | (simp [go_sem]; done))); simp only [go_sem, *]) | (refine x8 [0] [] (sa) (by simp) ?_ ?_ (by simp) (.inl rfl) ?_ ?_ ?_; (focus (simp only [go_sem, *]; done)); (focus (simp only [go_sem, *]; done)); (focus (first | (simp; done) | (simp [go_sem]; done))); (focus (first | (simp; done) | (simp [go_sem]; done))); simp only [go_sem, *])) | ((with_reducible refine And.intro ?_ ?_); focus omega) | (refine z6 hK ?_; clear hK; simp only [go_sem, *]) | (simp only [z5, z4, go_sem, *]))
   all_goals try contradiction
   refine ⟨[.agg [iV 5, iV s, iV 0, iV a.number, iV a.letter, iV 0, iV 0]], [some 0], [], ⟨by simp only [x9, go_sem], trivial⟩, ?_⟩
   simp only [go_sem, zeroPlate, *]
  ·subst k6
   clear k4 k7
   refine y3 func23 rfl (fun E hE => ?_); simp only [go_sem, ntmps23]
   repeat' (first | (show z3 ..; first | (refine Qr rfl ?_; try intro _ hK; try simp only [go_sem, *])) | (show Hold ..; first | refine Qh rfl ?_ | refine q6 rfl mixed (by kernel_rfl) ?_ | (refine z7 rfl ⟨_, rfl, fun hb => ?_, fun hb => ?_⟩ <;> (have hc := hb; try simp only [go_sem] at hc)) | refine z8 rfl ?_) | (refine Qb ?_ ?_; focus kernel_rfl) | (show q7 ..; first | (refine x8 [0] [] (s1) (by simp) ?_ ?_ (by simp) (.inl rfl) ?_ ?_ ?_; (focus (simp only [go_sem, *]; done)); (focus (simp only [go_sem, *]; done)); (focus (first | (simp; done) | (simp [go_sem]; done))); (focus (first | (simp; done) | (simp [go_sem]; done))); simp only [go_sem, *]) | (refine x8 [0] [] (s2) (by simp) ?_ ?_ (by simp) (.inl rfl) ?_ ?_ ?_; (focus (simp only [go_sem, *]; done)); (focus (simp only [go_sem, *]; done)); (focus (first | (simp; done) | (simp [go_sem]; done))); (focus (first | (simp; done) | (simp [go_sem]; done))); simp only [go_sem, *]) | (refine x8 [0] [] (sa) (by simp) ?_ ?_ (by simp) (.inl rfl) ?_ ?_ ?_; (focus (simp only [go_sem, *]; done)); (focus (simp only [go_sem, *]; done)); (focus (first | (simp; done) | (simp [go_sem]; done))); (focus (first | (simp; done) | (simp [go_sem]; done))); simp only [go_sem, *])) | ((with_reducible refine And.intro ?_ ?_); focus omega) | (refine z6 hK ?_; clear hK; simp only [go_sem, *]) | (simp only [z5, z4, go_sem, *]))
   all_goals try contradiction
   refine ⟨[.agg [iV 6, iV s, iV 0, iV a.number, iV a.letter, iV 0, iV 0]], [some 0], [], ⟨by simp only [x9, go_sem], trivial⟩, ?_⟩
   simp only [go_sem, zeroPlate, *]
 ·rw [if_neg k56]
  have k5' : (k == 5) = false := by rw [beq_eq_false_iff_ne]; omega
  have k6' : (k == 6) = false := by rw [beq_eq_false_iff_ne]; omega
  clear k4 k7 k56
  refine y3 func23 rfl (fun E hE => ?_); simp only [go_sem, ntmps23]
  repeat' (first | (show z3 ..; first | (refine Qr rfl ?_; try intro _ hK; try simp only [go_sem, *])) | (show Hold ..; first | refine Qh rfl ?_ | refine q6 rfl mixed (by kernel_rfl) ?_ | (refine z7 rfl ⟨_, rfl, fun hb => ?_, fun hb => ?_⟩ <;> (have hc := hb; try simp only [go_sem] at hc)) | refine z8 rfl ?_) | (refine Qb ?_ ?_; focus kernel_rfl) | (show q7 ..; first | (refine x8 [0] [] (s1) (by simp) ?_ ?_ (by simp) (.inl rfl) ?_ ?_ ?_; (focus (simp only [go_sem, *]; done)); (focus (simp only [go_sem, *]; done)); (focus (first | (simp; done) | (simp [go_sem]; done))); (focus (first | (simp; done) | (simp [go_sem]; done))); simp only [go_sem, *]) | (refine x8 [0] [] (s2) (by simp) ?_ ?_ (by simp) (.inl rfl) ?_ ?_ ?_; (focus (simp only [go_sem, *]; done)); (focus (simp only [go_sem, *]; done)); (focus (first | (simp; done) | (simp [go_sem]; done))); (focus (first | (simp; done) | (simp [go_sem]; done))); simp only [go_sem, *])) | ((with_reducible refine And.intro ?_ ?_); focus omega) | (refine z6 hK ?_; clear hK; simp only [go_sem, *]) | (simp only [z5, z4, go_sem, *]))
  all_goals try contradiction
  refine ⟨[.agg [iV k, iV s, iV 0, iV 0, iV 0, iV 0, iV 0]], [some 0], [], ⟨by simp only [x9, go_sem], trivial⟩, ?_⟩
  simp only [go_sem, zeroPlate, *]
end Go.Abs

namespace Go.Abs
open Go Go.Proofs Tryz
attribute [local irreducible] z3 Hold q7
def AtH (x : House) (acc : List House) (j : Nat) : Prop := ∀ m, m < j → (acc.getD m default).lt x = true
theorem AtH.next {x : House} {acc : List House} {j : Nat} (h : AtH x acc j) (hx : (acc.getD j default).lt x = true) : AtH x acc (j + 1) := fun m hm => by
 rcases Nat.lt_succ_iff_lt_or_eq.1 hm with h1 | rfl
 ·exact h m h1
 ·exact hx
def SoP (l : List House) (i : Nat) (acc R : List House) : Prop := (l.drop i).foldl (fun out x => zLY x out) acc = R ∧ acc.length ≤ i
theorem SoP.next {l : List House} {i : Nat} {acc R : List House} (h : SoP l i acc R) (hi : i < l.length) : SoP l (i + 1) (zLY (l.getD i default) acc) R := by
 obtain ⟨h1, h2⟩ := h
 rw [v3 hi, List.foldl_cons] at h1
 exact ⟨h1, by have := C9 (x := l.getD i default) (l := acc); omega⟩
theorem zAT (l : List House) (hl : l.length ≤ 4294967296) : zLJ prog 64 [.list (l.map House.enc)] [] (.list ((w8 l).map House.enc)) [] := by
 have h0 : SoP l 0 [] (w8 l) := ⟨rfl, by simp⟩
 generalize w8 l = R at *
 refine y3 func64 rfl (fun E hE => ?_); simp only [go_sem, ntmps64]
 repeat' (first | (show z3 ..; first | (refine Qr rfl ?_; try intro _ hK; try simp only [go_sem, *]) | (refine Qi rfl rfl rfl rfl (fun hb _ hK => ?_) (fun hb => ?_) <;> (have hc := hb; try simp only [go_sem] at hc; simp only [go_sem, *]))) | (show Hold ..; first | refine Qh rfl ?_ | refine q6 rfl mixed (by kernel_rfl) ?_ | (refine z7 rfl ⟨_, rfl, fun hb => ?_, fun hb => ?_⟩ <;> (have hc := hb; try simp only [go_sem] at hc)) | refine z8 rfl ?_) | (refine Qb ?_ ?_; focus kernel_rfl) | ((with_reducible refine And.intro ?_ ?_); focus omega) | (refine z6 hK ?_; clear hK; simp only [go_sem, *]) | (simp only [z5, z4, go_sem, *]))
 refine y8 rfl (fun zn zN zenv zAs => ∃ (i : Nat) (acc : List House), zn = (l.length) - i ∧ i ≤ (l.length) ∧ (SoP l i acc R) ∧ zN = 60 ∧ zenv = [(4, iV i), (3, .own 0 3 0 acc.length), (0, .list (l.map House.enc))] ∧ zAs = [.row 3 (acc.map House.enc)]) (l.length) ⟨[none], [], _, _, _, (by (simp only [Weak, go_sem, List.map_append, List.map_set, *] <;> (try simp (disch := omega) only [q9]) <;> (try simp) <;> (try omega))), 0, [], (by simp), (by simp), (by exact h0), rfl, rfl, rfl⟩ ?_; rintro _ _ _ _ ⟨i, acc, rfl, hi, hP, rfl, rfl, rfl⟩
 clear h0
 by_cases hi2 : i < l.length
 ·have hnx := hP.next hi2
  have hal := hP.2
  clear hP
  repeat' (first | (show z3 ..; first | (refine Qr rfl ?_; try intro _ hK; try simp only [go_sem, *]) | (refine Qi rfl rfl rfl rfl (fun hb _ hK => ?_) (fun hb => ?_) <;> (have hc := hb; try simp only [go_sem] at hc; simp only [go_sem, *]))) | (show Hold ..; first | refine Qh rfl ?_ | refine q6 rfl mixed (by kernel_rfl) ?_ | (refine z7 rfl ⟨_, rfl, fun hb => ?_, fun hb => ?_⟩ <;> (have hc := hb; try simp only [go_sem] at hc)) | refine z8 rfl ?_) | (refine Qb ?_ ?_; focus kernel_rfl) | ((with_reducible refine And.intro ?_ ?_); focus omega) | (refine z6 hK ?_; clear hK; simp only [go_sem, *]) | (simp only [z5, z4, go_sem, *]))
  generalize hx : l.getD i default = x at *
  have hxl : ∀ d, (l.map House.enc).getD i d = x.enc := fun d => by rw [← hx]; exact zEd hi2
  refine y8 rfl (fun zn zN zenv zAs => ∃ (j : Nat), zn = (acc.length) - j ∧ j ≤ (acc.length) ∧ (AtH x acc j) ∧ zN = 60 ∧ zenv = [(5, iV j), (4, iV i), (3, .own 0 3 0 acc.length), (0, .list (l.map House.enc))] ∧ zAs = [.row 3 (acc.map House.enc)]) (acc.length) ⟨[some 0], [], _, _, _, (by (simp only [Weak, go_sem, List.map_append, List.map_set, *] <;> (try simp (disch := omega) only [q9]) <;> (try simp) <;> (try omega))), 0, (by simp), (by simp), (by exact fun m hm => absurd hm (by omega)), rfl, rfl, rfl⟩ ?_; rintro _ _ _ _ ⟨j, rfl, hj, hJ, rfl, rfl, rfl⟩
  have hmn : min j acc.length = j := by omega
  have hl2 : j + (acc.length - j + 1) = j + 1 + (acc.length - j) := by omega
  have hdl2 : (List.drop j (List.map House.enc acc)).length = acc.length - j := by simp
  have htd : List.take (acc.length - j) (List.drop j (List.map House.enc acc)) = List.drop j (List.map House.enc acc) := List.take_of_length_le (by simp)
  by_cases hj2 : j < acc.length
  ·have sb := zGg (acc.getD j default) x
   by_cases hlt : (acc.getD j default).lt x = true
   ·rw [hlt] at sb
    repeat' (first | (show z3 ..; first | (refine Qr rfl ?_; try intro _ hK; try simp only [go_sem, *]) | (refine Qi rfl rfl rfl rfl (fun hb _ hK => ?_) (fun hb => ?_) <;> (have hc := hb; try simp only [go_sem] at hc; simp only [go_sem, *]))) | (show Hold ..; first | refine Qh rfl ?_ | refine q6 rfl mixed (by kernel_rfl) ?_ | (refine z7 rfl ⟨_, rfl, fun hb => ?_, fun hb => ?_⟩ <;> (have hc := hb; try simp only [go_sem] at hc)) | refine z8 rfl ?_) | (refine Qb ?_ ?_; focus kernel_rfl) | (show q7 ..; first | (refine q8 (sb) ?_ ?_; (focus (simp only [go_sem, *]; done)); simp only [go_sem, *])) | ((with_reducible refine And.intro ?_ ?_); focus omega) | (refine z6 hK ?_; clear hK; simp only [go_sem, *]) | (simp only [z5, z4, go_sem, *]))
    all_goals try contradiction
    refine ⟨_, (by omega), [some 0], [], _, _, _, (by (simp only [Weak, go_sem, List.map_append, List.map_set, *] <;> (try simp (disch := omega) only [q9]) <;> (try simp) <;> (try omega))), j + 1, rfl, (by omega), (by exact hJ.next hlt), rfl, rfl, rfl⟩
   ·rw [Bool.not_eq_true] at hlt
    rw [hlt] at sb
    have hin := C8 (by omega) hJ (fun _ => hlt)
    by_cases heq : acc.getD j default = x
    ·rw [if_pos ⟨hj2, heq⟩] at hin
     rw [hin] at hnx
     clear hin
     have hne : (decide (acc.getD j default = x)) = true := by simpa using heq
     clear heq
     repeat' (first | (show z3 ..; first | (refine Qr rfl ?_; try intro _ hK; try simp only [go_sem, *]) | (refine Qi rfl rfl rfl rfl (fun hb _ hK => ?_) (fun hb => ?_) <;> (have hc := hb; try simp only [go_sem] at hc; simp only [go_sem, *]))) | (show Hold ..; first | refine Qh rfl ?_ | refine q6 rfl mixed (by kernel_rfl) ?_ | (refine z7 rfl ⟨_, rfl, fun hb => ?_, fun hb => ?_⟩ <;> (have hc := hb; try simp only [go_sem] at hc)) | refine z8 rfl ?_) | (with_reducible (show (∀ _ : AV, _ → _) ∧ _); refine And.intro ?_ ?_; (focus (intro y hy; first | (obtain ⟨z, _, rfl⟩ := List.mem_map.1 (hy); simp [go_sem]; done) | (obtain ⟨z, _, rfl⟩ := List.mem_map.1 (List.mem_of_mem_take hy); simp [go_sem]; done) | (obtain ⟨z, _, rfl⟩ := List.mem_map.1 (List.mem_of_mem_drop hy); simp [go_sem]; done) | (obtain ⟨z, _, rfl⟩ := List.mem_map.1 (List.mem_of_mem_drop (List.mem_of_mem_take hy)); simp [go_sem]; done)))) | (refine Qb ?_ ?_; focus kernel_rfl) | (show q7 ..; first | (refine q8 (sb) ?_ ?_; (focus (simp only [go_sem, *]; done)); simp only [go_sem, *])) | ((with_reducible refine And.intro ?_ ?_); focus omega) | (refine z6 hK ?_; clear hK; simp only [go_sem, *]) | (simp only [z5, z4, go_sem, *]))
     all_goals try contradiction
     refine ⟨_, (by omega), [some 0], [], _, _, _, (by (simp only [Weak, go_sem, List.map_append, List.map_set, *] <;> (try simp (disch := omega) only [q9]) <;> (try simp) <;> (try omega))), i + 1, acc, rfl, (by omega), (by exact hnx), rfl, rfl, rfl⟩
    ·rw [if_neg (fun h => heq h.2)] at hin
     rw [hin] at hnx
     clear hin
     have hne : (decide (acc.getD j default = x)) = false := by simpa using heq
     clear heq
     repeat' (first | (show z3 ..; first | (refine Qr rfl ?_; try intro _ hK; try simp only [go_sem, *]) | (refine Qi rfl rfl rfl rfl (fun hb _ hK => ?_) (fun hb => ?_) <;> (have hc := hb; try simp only [go_sem] at hc; simp only [go_sem, *]))) | (show Hold ..; first | refine Qh rfl ?_ | refine q6 rfl mixed (by kernel_rfl) ?_ | (refine z7 rfl ⟨_, rfl, fun hb => ?_, fun hb => ?_⟩ <;> (have hc := hb; try simp only [go_sem] at hc)) | refine z8 rfl ?_) | (with_reducible (show (∀ _ : AV, _ → _) ∧ _); refine And.intro ?_ ?_; (focus (intro y hy; first | (obtain ⟨z, _, rfl⟩ := List.mem_map.1 (hy); simp [go_sem]; done) | (obtain ⟨z, _, rfl⟩ := List.mem_map.1 (List.mem_of_mem_take hy); simp [go_sem]; done) | (obtain ⟨z, _, rfl⟩ := List.mem_map.1 (List.mem_of_mem_drop hy); simp [go_sem]; done) | (obtain ⟨z, _, rfl⟩ := List.mem_map.1 (List.mem_of_mem_drop (List.mem_of_mem_take hy)); simp [go_sem]; done)))) | (refine Qb ?_ ?_; focus kernel_rfl) | (show q7 ..; first | (refine q8 (sb) ?_ ?_; (focus (simp only [go_sem, *]; done)); simp only [go_sem, *])) | ((with_reducible refine And.intro ?_ ?_); focus omega) | (refine z6 hK ?_; clear hK; simp only [go_sem, *]) | (simp only [z5, z4, go_sem, *]))
     all_goals try contradiction
     refine ⟨_, (by omega), [some 5], [], _, _, _, (by (simp only [Weak, go_sem, List.map_append, List.map_set, *] <;> (try simp (disch := omega) only [q9]) <;> (try simp) <;> (try omega))), i + 1, acc.take j ++ x :: acc.drop j, rfl, (by omega), (by exact hnx), rfl, rfl, rfl⟩
  ·have hin := C8 (x := x) (l := acc) (k := j) (by omega) hJ (fun h => absurd h hj2)
   rw [if_neg (fun h => hj2 h.1)] at hin
   rw [hin] at hnx
   clear hin
   repeat' (first | (show z3 ..; first | (refine Qr rfl ?_; try intro _ hK; try simp only [go_sem, *]) | (refine Qi rfl rfl rfl rfl (fun hb _ hK => ?_) (fun hb => ?_) <;> (have hc := hb; try simp only [go_sem] at hc; simp only [go_sem, *]))) | (show Hold ..; first | refine Qh rfl ?_ | refine q6 rfl mixed (by kernel_rfl) ?_ | (refine z7 rfl ⟨_, rfl, fun hb => ?_, fun hb => ?_⟩ <;> (have hc := hb; try simp only [go_sem] at hc)) | refine z8 rfl ?_) | (with_reducible (show (∀ _ : AV, _ → _) ∧ _); refine And.intro ?_ ?_; (focus (intro y hy; first | (obtain ⟨z, _, rfl⟩ := List.mem_map.1 (hy); simp [go_sem]; done) | (obtain ⟨z, _, rfl⟩ := List.mem_map.1 (List.mem_of_mem_take hy); simp [go_sem]; done) | (obtain ⟨z, _, rfl⟩ := List.mem_map.1 (List.mem_of_mem_drop hy); simp [go_sem]; done) | (obtain ⟨z, _, rfl⟩ := List.mem_map.1 (List.mem_of_mem_drop (List.mem_of_mem_take hy)); simp [go_sem]; done)))) | (refine Qb ?_ ?_; focus kernel_rfl) | ((with_reducible refine And.intro ?_ ?_); focus omega) | (refine z6 hK ?_; clear hK; simp only [go_sem, *]) | (simp only [z5, z4, go_sem, *]))
   all_goals try contradiction
   refine ⟨_, (by omega), [some 5], [], _, _, _, (by (simp only [Weak, go_sem, List.map_append, List.map_set, *] <;> (try simp (disch := omega) only [q9]) <;> (try simp) <;> (try omega))), i + 1, acc.take j ++ x :: acc.drop j, rfl, (by omega), (by exact hnx), rfl, rfl, rfl⟩
 ·obtain ⟨h1, h2⟩ := hP
  rw [v4 (by omega)] at h1
  have h3 : acc = R := h1
  subst h3
  clear h1 h2
  repeat' (first | (show z3 ..; first | (refine Qr rfl ?_; try intro _ hK; try simp only [go_sem, *]) | (refine Qi rfl rfl rfl rfl (fun hb _ hK => ?_) (fun hb => ?_) <;> (have hc := hb; try simp only [go_sem] at hc; simp only [go_sem, *]))) | (show Hold ..; first | refine Qh rfl ?_ | refine q6 rfl mixed (by kernel_rfl) ?_ | (refine z7 rfl ⟨_, rfl, fun hb => ?_, fun hb => ?_⟩ <;> (have hc := hb; try simp only [go_sem] at hc)) | refine z8 rfl ?_) | (refine Qb ?_ ?_; focus kernel_rfl) | ((with_reducible refine And.intro ?_ ?_); focus omega) | (refine z6 hK ?_; clear hK; simp only [go_sem, *]) | (simp only [z5, z4, go_sem, *]))
  refine ⟨[_], [], [0], ⟨rfl, trivial⟩, ?_⟩
  simp only [go_sem, *]
end Go.Abs

namespace Go.Abs
open Go Go.Proofs Tryz
attribute [local irreducible] z3 Hold q7
def bkt (L : List House) (i s : Nat) : List Plate := ((L.take i).filter (fun h => h.street == (s : Int))).map House.plate
theorem T6 {L : List House} {i s : Nat} (h : i < L.length) (e : (L.getD i default).street = (s : Int)) : bkt L (i + 1) s = bkt L i s ++ [(L.getD i default).plate] := by
 have q : ((L.getD i default).street == (s : Int)) = true := by rw [beq_iff_eq]; exact e
 unfold bkt
 rw [j0 h, List.filter_append, List.map_append, List.filter_cons, if_pos q]; rfl
theorem Y5 {L : List House} {i s : Nat} (h : i < L.length) (e : (L.getD i default).street ≠ (s : Int)) : bkt L (i + 1) s = bkt L i s := by
 have q : ¬ ((L.getD i default).street == (s : Int)) = true := by rw [beq_iff_eq]; exact e
 unfold bkt
 rw [j0 h, List.filter_append, List.map_append, List.filter_cons, if_neg q]; simp
theorem E2 (L : List House) (i s : Nat) : (bkt L i s).length ≤ L.length := by
 unfold bkt; rw [List.length_map]
 exact Nat.le_trans (List.length_filter_le _ _) (by simp; omega)
theorem T5 {L : List House} {i s : Nat} (h : L.length ≤ i) : bkt L i s = (L.filter (fun h => h.street == (s : Int))).map House.plate := by
 unfold bkt; rw [List.take_of_length_le h]
theorem zHW (l : List House) (hst : ∀ z, z ∈ l → 0 ≤ z.street ∧ z.street < 1) (hl : l.length ≤ 4294967296) : zLJ prog 127 [.list (l.map House.enc), iV 1] [] (y5 (zLT l 1)) [] := by
 have rz : List.replicate 1 (AV.raw (Value.slice none 0 0)) = [AV.raw (Value.slice none 0 0)] := rfl
 have hv : IntKind.i64.wrap 1 = (1 : Int) := wrap_i64 (by omega) (by omega)
 have ss := zAT l hl
 have hsl : (w8 l).length ≤ l.length := by have := J6 l []; simpa [w8] using this
 have hsm : ∀ z, z ∈ w8 l → 0 ≤ z.street ∧ z.street < 1 := fun z hz => hst z (mem_sortH.1 hz)
 have he : zLT l 1 = [((w8 l).filter (fun h => h.street == ((0 : Nat) : Int))).map House.plate] := by simp [zLT, List.range_succ]
 rw [he]
 clear he hst
 generalize w8 l = L at *
 have hlb := fun i s => E2 L i s
 have z0 : bkt L 0 0 = [] := rfl
 have z1 : bkt L 0 1 = [] := rfl
 have z2 : bkt L 0 2 = [] := rfl
 refine y3 func127 rfl (fun E hE => ?_); simp only [go_sem, ntmps127]
 repeat' (first | (show z3 ..; first | (refine Qr rfl ?_; try intro _ hK; try simp only [go_sem, *])) | (show Hold ..; first | refine Qh rfl ?_ | refine q6 rfl mixed (by kernel_rfl) ?_ | (refine z7 rfl ⟨_, rfl, fun hb => ?_, fun hb => ?_⟩ <;> (have hc := hb; try simp only [go_sem] at hc)) | refine z8 rfl ?_) | (refine Qb ?_ ?_; focus kernel_rfl) | (show q7 ..; first | (refine q8 (ss) ?_ ?_; (focus (simp only [go_sem, *]; done)); simp only [go_sem, *])) | ((with_reducible refine And.intro ?_ ?_); focus omega) | (refine z6 hK ?_; clear hK; simp only [go_sem, *]) | (simp only [z5, z4, go_sem, *]))
 refine y8 rfl (fun zn zN zenv zAs => ∃ (i : Nat), zn = (L.length) - i ∧ i ≤ (L.length) ∧ (NoP i) ∧ zN = 43 ∧ zenv = [(6, iV i), (5, .ptr 1 0), (4, .ptr 0 0), (0, .list (L.map House.enc))] ∧ zAs = [.box [zLb], .box [.own 2 1 0 1], .box [.own 3 2 0 (bkt L i 0).length], .row 2 ((bkt L i 0).map Plate.enc)]) (L.length) ⟨[some 0, some 2, some 1, none], [], _, _, _, (by (simp only [Weak, go_sem, List.map_append, List.map_set, *] <;> (try simp (disch := omega) only [q9]) <;> (try simp) <;> (try omega))), 0, (by simp), (by simp), (by trivial), rfl, rfl, rfl⟩ ?_; rintro _ _ _ _ ⟨i, rfl, hi, hP, rfl, rfl, rfl⟩
 have hb0 := hlb i 0
 clear hlb z0 z1 z2
 by_cases hi2 : i < L.length
 ·have hz := hsm _ (w6 hi2)
  rcases (by omega : (L.getD i default).street = 0) with hs0
  ·have e0 := T6 (s := 0) hi2 (by rw [hs0]; rfl)
   repeat' (first | (show z3 ..; first | (refine Qr rfl ?_; try intro _ hK; try simp only [go_sem, *])) | (show Hold ..; first | refine Qh rfl ?_ | refine q6 rfl mixed (by kernel_rfl) ?_ | (refine z7 rfl ⟨_, rfl, fun hb => ?_, fun hb => ?_⟩ <;> (have hc := hb; try simp only [go_sem] at hc)) | refine z8 rfl ?_) | (with_reducible (show (∀ _ : AV, _ → _) ∧ _); refine And.intro ?_ ?_; (focus (intro y hy; first | (obtain ⟨z, _, rfl⟩ := List.mem_map.1 (hy); simp [go_sem]; done) | (obtain ⟨z, _, rfl⟩ := List.mem_map.1 (List.mem_of_mem_take hy); simp [go_sem]; done) | (obtain ⟨z, _, rfl⟩ := List.mem_map.1 (List.mem_of_mem_drop hy); simp [go_sem]; done) | (obtain ⟨z, _, rfl⟩ := List.mem_map.1 (List.mem_of_mem_drop (List.mem_of_mem_take hy)); simp [go_sem]; done)))) | (refine Qb ?_ ?_; focus kernel_rfl) | ((with_reducible refine And.intro ?_ ?_); focus omega) | (refine z6 hK ?_; clear hK; simp only [go_sem, *]) | (simp only [z5, z4, go_sem, *]))
   all_goals try contradiction
   refine ⟨_, (by omega), [some 0, some 1, some 2, some 5], [], _, _, _, (by (simp only [Weak, go_sem, List.map_append, List.map_set, *] <;> (try simp (disch := omega) only [q9]) <;> (try simp) <;> (try omega))), i + 1, rfl, (by omega), (by trivial), rfl, rfl, rfl⟩
 ·have e0 := T5 (L := L) (i := i) (s := 0) (by omega)
  repeat' (first | (show z3 ..; first | (refine Qr rfl ?_; try intro _ hK; try simp only [go_sem, *])) | (show Hold ..; first | refine Qh rfl ?_ | refine q6 rfl mixed (by kernel_rfl) ?_ | (refine z7 rfl ⟨_, rfl, fun hb => ?_, fun hb => ?_⟩ <;> (have hc := hb; try simp only [go_sem] at hc)) | refine z8 rfl ?_) | (refine Qb ?_ ?_; focus kernel_rfl) | ((with_reducible refine And.intro ?_ ?_); focus omega) | (refine z6 hK ?_; clear hK; simp only [go_sem, *]) | (simp only [z5, z4, go_sem, *]))
  refine ⟨[.agg [.own 2 1 0 1]], [], [2, 3], ⟨by simp only [x9, go_sem], trivial⟩, ?_⟩
  simp only [go_sem, *]
  try simp [List.take_of_length_le]
theorem zHX (l : List House) (hst : ∀ z, z ∈ l → 0 ≤ z.street ∧ z.street < 2) (hl : l.length ≤ 4294967296) : zLJ prog 127 [.list (l.map House.enc), iV 2] [] (y5 (zLT l 2)) [] := by
 have rz : List.replicate 2 (AV.raw (Value.slice none 0 0)) = [AV.raw (Value.slice none 0 0), AV.raw (Value.slice none 0 0)] := rfl
 have hv : IntKind.i64.wrap 2 = (2 : Int) := wrap_i64 (by omega) (by omega)
 have ss := zAT l hl
 have hsl : (w8 l).length ≤ l.length := by have := J6 l []; simpa [w8] using this
 have hsm : ∀ z, z ∈ w8 l → 0 ≤ z.street ∧ z.street < 2 := fun z hz => hst z (mem_sortH.1 hz)
 have he : zLT l 2 = [((w8 l).filter (fun h => h.street == ((0 : Nat) : Int))).map House.plate, ((w8 l).filter (fun h => h.street == ((1 : Nat) : Int))).map House.plate] := by simp [zLT, List.range_succ]
 rw [he]
 clear he hst
 generalize w8 l = L at *
 have hlb := fun i s => E2 L i s
 have z0 : bkt L 0 0 = [] := rfl
 have z1 : bkt L 0 1 = [] := rfl
 have z2 : bkt L 0 2 = [] := rfl
 refine y3 func127 rfl (fun E hE => ?_); simp only [go_sem, ntmps127]
 repeat' (first | (show z3 ..; first | (refine Qr rfl ?_; try intro _ hK; try simp only [go_sem, *])) | (show Hold ..; first | refine Qh rfl ?_ | refine q6 rfl mixed (by kernel_rfl) ?_ | (refine z7 rfl ⟨_, rfl, fun hb => ?_, fun hb => ?_⟩ <;> (have hc := hb; try simp only [go_sem] at hc)) | refine z8 rfl ?_) | (refine Qb ?_ ?_; focus kernel_rfl) | (show q7 ..; first | (refine q8 (ss) ?_ ?_; (focus (simp only [go_sem, *]; done)); simp only [go_sem, *])) | ((with_reducible refine And.intro ?_ ?_); focus omega) | (refine z6 hK ?_; clear hK; simp only [go_sem, *]) | (simp only [z5, z4, go_sem, *]))
 refine y8 rfl (fun zn zN zenv zAs => ∃ (i : Nat), zn = (L.length) - i ∧ i ≤ (L.length) ∧ (NoP i) ∧ zN = 43 ∧ zenv = [(6, iV i), (5, .ptr 1 0), (4, .ptr 0 0), (0, .list (L.map House.enc))] ∧ zAs = [.box [zLb], .box [.own 2 1 0 2], .box [.own 3 2 0 (bkt L i 0).length, .own 4 2 0 (bkt L i 1).length], .row 2 ((bkt L i 0).map Plate.enc), .row 2 ((bkt L i 1).map Plate.enc)]) (L.length) ⟨[some 0, some 2, some 1, none, none], [], _, _, _, (by (simp only [Weak, go_sem, List.map_append, List.map_set, *] <;> (try simp (disch := omega) only [q9]) <;> (try simp) <;> (try omega))), 0, (by simp), (by simp), (by trivial), rfl, rfl, rfl⟩ ?_; rintro _ _ _ _ ⟨i, rfl, hi, hP, rfl, rfl, rfl⟩
 have hb0 := hlb i 0
 have hb1 := hlb i 1
 clear hlb z0 z1 z2
 by_cases hi2 : i < L.length
 ·have hz := hsm _ (w6 hi2)
  rcases (by omega : (L.getD i default).street = 0 ∨ (L.getD i default).street = 1) with hs0 | hs0
  ·have e0 := T6 (s := 0) hi2 (by rw [hs0]; rfl)
   have e1 := Y5 (s := 1) hi2 (by rw [hs0]; decide)
   repeat' (first | (show z3 ..; first | (refine Qr rfl ?_; try intro _ hK; try simp only [go_sem, *])) | (show Hold ..; first | refine Qh rfl ?_ | refine q6 rfl mixed (by kernel_rfl) ?_ | (refine z7 rfl ⟨_, rfl, fun hb => ?_, fun hb => ?_⟩ <;> (have hc := hb; try simp only [go_sem] at hc)) | refine z8 rfl ?_) | (with_reducible (show (∀ _ : AV, _ → _) ∧ _); refine And.intro ?_ ?_; (focus (intro y hy; first | (obtain ⟨z, _, rfl⟩ := List.mem_map.1 (hy); simp [go_sem]; done) | (obtain ⟨z, _, rfl⟩ := List.mem_map.1 (List.mem_of_mem_take hy); simp [go_sem]; done) | (obtain ⟨z, _, rfl⟩ := List.mem_map.1 (List.mem_of_mem_drop hy); simp [go_sem]; done) | (obtain ⟨z, _, rfl⟩ := List.mem_map.1 (List.mem_of_mem_drop (List.mem_of_mem_take hy)); simp [go_sem]; done)))) | (refine Qb ?_ ?_; focus kernel_rfl) | ((with_reducible refine And.intro ?_ ?_); focus omega) | (refine z6 hK ?_; clear hK; simp only [go_sem, *]) | (simp only [z5, z4, go_sem, *]))
   all_goals try contradiction
   refine ⟨_, (by omega), [some 0, some 1, some 2, some 6, some 4], [], _, _, _, (by (simp only [Weak, go_sem, List.map_append, List.map_set, *] <;> (try simp (disch := omega) only [q9]) <;> (try simp) <;> (try omega))), i + 1, rfl, (by omega), (by trivial), rfl, rfl, rfl⟩
  ·have e0 := Y5 (s := 0) hi2 (by rw [hs0]; decide)
   have e1 := T6 (s := 1) hi2 (by rw [hs0]; rfl)
   repeat' (first | (show z3 ..; first | (refine Qr rfl ?_; try intro _ hK; try simp only [go_sem, *])) | (show Hold ..; first | refine Qh rfl ?_ | refine q6 rfl mixed (by kernel_rfl) ?_ | (refine z7 rfl ⟨_, rfl, fun hb => ?_, fun hb => ?_⟩ <;> (have hc := hb; try simp only [go_sem] at hc)) | refine z8 rfl ?_) | (with_reducible (show (∀ _ : AV, _ → _) ∧ _); refine And.intro ?_ ?_; (focus (intro y hy; first | (obtain ⟨z, _, rfl⟩ := List.mem_map.1 (hy); simp [go_sem]; done) | (obtain ⟨z, _, rfl⟩ := List.mem_map.1 (List.mem_of_mem_take hy); simp [go_sem]; done) | (obtain ⟨z, _, rfl⟩ := List.mem_map.1 (List.mem_of_mem_drop hy); simp [go_sem]; done) | (obtain ⟨z, _, rfl⟩ := List.mem_map.1 (List.mem_of_mem_drop (List.mem_of_mem_take hy)); simp [go_sem]; done)))) | (refine Qb ?_ ?_; focus kernel_rfl) | ((with_reducible refine And.intro ?_ ?_); focus omega) | (refine z6 hK ?_; clear hK; simp only [go_sem, *]) | (simp only [z5, z4, go_sem, *]))
   all_goals try contradiction
   refine ⟨_, (by omega), [some 0, some 1, some 2, some 3, some 6], [], _, _, _, (by (simp only [Weak, go_sem, List.map_append, List.map_set, *] <;> (try simp (disch := omega) only [q9]) <;> (try simp) <;> (try omega))), i + 1, rfl, (by omega), (by trivial), rfl, rfl, rfl⟩
 ·have e0 := T5 (L := L) (i := i) (s := 0) (by omega)
  have e1 := T5 (L := L) (i := i) (s := 1) (by omega)
  repeat' (first | (show z3 ..; first | (refine Qr rfl ?_; try intro _ hK; try simp only [go_sem, *])) | (show Hold ..; first | refine Qh rfl ?_ | refine q6 rfl mixed (by kernel_rfl) ?_ | (refine z7 rfl ⟨_, rfl, fun hb => ?_, fun hb => ?_⟩ <;> (have hc := hb; try simp only [go_sem] at hc)) | refine z8 rfl ?_) | (refine Qb ?_ ?_; focus kernel_rfl) | ((with_reducible refine And.intro ?_ ?_); focus omega) | (refine z6 hK ?_; clear hK; simp only [go_sem, *]) | (simp only [z5, z4, go_sem, *]))
  refine ⟨[.agg [.own 2 1 0 2]], [], [2, 3, 4], ⟨by simp only [x9, go_sem], trivial⟩, ?_⟩
  simp only [go_sem, *]
  try simp [List.take_of_length_le]
theorem zHY (l : List House) (hst : ∀ z, z ∈ l → 0 ≤ z.street ∧ z.street < 3) (hl : l.length ≤ 4294967296) : zLJ prog 127 [.list (l.map House.enc), iV 3] [] (y5 (zLT l 3)) [] := by
 have rz : List.replicate 3 (AV.raw (Value.slice none 0 0)) = [AV.raw (Value.slice none 0 0), AV.raw (Value.slice none 0 0), AV.raw (Value.slice none 0 0)] := rfl
 have hv : IntKind.i64.wrap 3 = (3 : Int) := wrap_i64 (by omega) (by omega)
 have ss := zAT l hl
 have hsl : (w8 l).length ≤ l.length := by have := J6 l []; simpa [w8] using this
 have hsm : ∀ z, z ∈ w8 l → 0 ≤ z.street ∧ z.street < 3 := fun z hz => hst z (mem_sortH.1 hz)
 have he : zLT l 3 = [((w8 l).filter (fun h => h.street == ((0 : Nat) : Int))).map House.plate, ((w8 l).filter (fun h => h.street == ((1 : Nat) : Int))).map House.plate, ((w8 l).filter (fun h => h.street == ((2 : Nat) : Int))).map House.plate] := by simp [zLT, List.range_succ]
 rw [he]
 clear he hst
 generalize w8 l = L at *
 have hlb := fun i s => E2 L i s
 have z0 : bkt L 0 0 = [] := rfl
 have z1 : bkt L 0 1 = [] := rfl
 have z2 : bkt L 0 2 = [] := rfl
 refine y3 func127 rfl (fun E hE => ?_); simp only [go_sem, ntmps127]
 repeat' (first | (show z3 ..; first | (refine Qr rfl ?_; try intro _ hK; try simp only [go_sem, *])) | (show Hold ..; first | refine Qh rfl ?_ | refine q6 rfl mixed (by kernel_rfl) ?_ | (refine z7 rfl ⟨_, rfl, fun hb => ?_, fun hb => ?_⟩ <;> (have hc := hb; try simp only [go_sem] at hc)) | refine z8 rfl ?_) | (refine Qb ?_ ?_; focus kernel_rfl) | (show q7 ..; first | (refine q8 (ss) ?_ ?_; (focus (simp only [go_sem, *]; done)); simp only [go_sem, *])) | ((with_reducible refine And.intro ?_ ?_); focus omega) | (refine z6 hK ?_; clear hK; simp only [go_sem, *]) | (simp only [z5, z4, go_sem, *]))
 refine y8 rfl (fun zn zN zenv zAs => ∃ (i : Nat), zn = (L.length) - i ∧ i ≤ (L.length) ∧ (NoP i) ∧ zN = 43 ∧ zenv = [(6, iV i), (5, .ptr 1 0), (4, .ptr 0 0), (0, .list (L.map House.enc))] ∧ zAs = [.box [zLb], .box [.own 2 1 0 3], .box [.own 3 2 0 (bkt L i 0).length, .own 4 2 0 (bkt L i 1).length, .own 5 2 0 (bkt L i 2).length], .row 2 ((bkt L i 0).map Plate.enc), .row 2 ((bkt L i 1).map Plate.enc), .row 2 ((bkt L i 2).map Plate.enc)]) (L.length) ⟨[some 0, some 2, some 1, none, none, none], [], _, _, _, (by (simp only [Weak, go_sem, List.map_append, List.map_set, *] <;> (try simp (disch := omega) only [q9]) <;> (try simp) <;> (try omega))), 0, (by simp), (by simp), (by trivial), rfl, rfl, rfl⟩ ?_; rintro _ _ _ _ ⟨i, rfl, hi, hP, rfl, rfl, rfl⟩
 have hb0 := hlb i 0
 have hb1 := hlb i 1
 have hb2 := hlb i 2
 clear hlb z0 z1 z2
 by_cases hi2 : i < L.length
 ·have hz := hsm _ (w6 hi2)
  rcases (by omega : (L.getD i default).street = 0 ∨ (L.getD i default).street = 1 ∨ (L.getD i default).street = 2) with hs0 | hs0 | hs0
  ·have e0 := T6 (s := 0) hi2 (by rw [hs0]; rfl)
   have e1 := Y5 (s := 1) hi2 (by rw [hs0]; decide)
   have e2 := Y5 (s := 2) hi2 (by rw [hs0]; decide)
   repeat' (first | (show z3 ..; first | (refine Qr rfl ?_; try intro _ hK; try simp only [go_sem, *])) | (show Hold ..; first | refine Qh rfl ?_ | refine q6 rfl mixed (by kernel_rfl) ?_ | (refine z7 rfl ⟨_, rfl, fun hb => ?_, fun hb => ?_⟩ <;> (have hc := hb; try simp only [go_sem] at hc)) | refine z8 rfl ?_) | (with_reducible (show (∀ _ : AV, _ → _) ∧ _); refine And.intro ?_ ?_; (focus (intro y hy; first | (obtain ⟨z, _, rfl⟩ := List.mem_map.1 (hy); simp [go_sem]; done) | (obtain ⟨z, _, rfl⟩ := List.mem_map.1 (List.mem_of_mem_take hy); simp [go_sem]; done) | (obtain ⟨z, _, rfl⟩ := List.mem_map.1 (List.mem_of_mem_drop hy); simp [go_sem]; done) | (obtain ⟨z, _, rfl⟩ := List.mem_map.1 (List.mem_of_mem_drop (List.mem_of_mem_take hy)); simp [go_sem]; done)))) | (refine Qb ?_ ?_; focus kernel_rfl) | ((with_reducible refine And.intro ?_ ?_); focus omega) | (refine z6 hK ?_; clear hK; simp only [go_sem, *]) | (simp only [z5, z4, go_sem, *]))
   all_goals try contradiction
   refine ⟨_, (by omega), [some 0, some 1, some 2, some 7, some 4, some 5], [], _, _, _, (by (simp only [Weak, go_sem, List.map_append, List.map_set, *] <;> (try simp (disch := omega) only [q9]) <;> (try simp) <;> (try omega))), i + 1, rfl, (by omega), (by trivial), rfl, rfl, rfl⟩
  ·have e0 := Y5 (s := 0) hi2 (by rw [hs0]; decide)
   have e1 := T6 (s := 1) hi2 (by rw [hs0]; rfl)
   have e2 := Y5 (s := 2) hi2 (by rw [hs0]; decide)
   repeat' (first | (show z3 ..; first | (refine Qr rfl ?_; try intro _ hK; try simp only [go_sem, *])) | (show Hold ..; first | refine Qh rfl ?_ | refine q6 rfl mixed (by kernel_rfl) ?_ | (refine z7 rfl ⟨_, rfl, fun hb => ?_, fun hb => ?_⟩ <;> (have hc := hb; try simp only [go_sem] at hc)) | refine z8 rfl ?_) | (with_reducible (show (∀ _ : AV, _ → _) ∧ _); refine And.intro ?_ ?_; (focus (intro y hy; first | (obtain ⟨z, _, rfl⟩ := List.mem_map.1 (hy); simp [go_sem]; done) | (obtain ⟨z, _, rfl⟩ := List.mem_map.1 (List.mem_of_mem_take hy); simp [go_sem]; done) | (obtain ⟨z, _, rfl⟩ := List.mem_map.1 (List.mem_of_mem_drop hy); simp [go_sem]; done) | (obtain ⟨z, _, rfl⟩ := List.mem_map.1 (List.mem_of_mem_drop (List.mem_of_mem_take hy)); simp [go_sem]; done)))) | (refine Qb ?_ ?_; focus kernel_rfl) | ((with_reducible refine And.intro ?_ ?_); focus omega) | (refine z6 hK ?_; clear hK; simp only [go_sem, *]) | (simp only [z5, z4, go_sem, *]))
   all_goals try contradiction
   refine ⟨_, (by omega), [some 0, some 1, some 2, some 3, some 7, some 5], [], _, _, _, (by (simp only [Weak, go_sem, List.map_append, List.map_set, *] <;> (try simp (disch := omega) only [q9]) <;> (try simp) <;> (try omega))), i + 1, rfl, (by omega), (by trivial), rfl, rfl, rfl⟩
  ·have e0 := Y5 (s := 0) hi2 (by rw [hs0]; decide)
   have e1 := Y5 (s := 1) hi2 (by rw [hs0]; decide)
   have e2 := T6 (s := 2) hi2 (by rw [hs0]; rfl)
   repeat' (first | (show z3 ..; first | (refine Qr rfl ?_; try intro _ hK; try simp only [go_sem, *])) | (show Hold ..; first | refine Qh rfl ?_ | refine q6 rfl mixed (by kernel_rfl) ?_ | (refine z7 rfl ⟨_, rfl, fun hb => ?_, fun hb => ?_⟩ <;> (have hc := hb; try simp only [go_sem] at hc)) | refine z8 rfl ?_) | (with_reducible (show (∀ _ : AV, _ → _) ∧ _); refine And.intro ?_ ?_; (focus (intro y hy; first | (obtain ⟨z, _, rfl⟩ := List.mem_map.1 (hy); simp [go_sem]; done) | (obtain ⟨z, _, rfl⟩ := List.mem_map.1 (List.mem_of_mem_take hy); simp [go_sem]; done) | (obtain ⟨z, _, rfl⟩ := List.mem_map.1 (List.mem_of_mem_drop hy); simp [go_sem]; done) | (obtain ⟨z, _, rfl⟩ := List.mem_map.1 (List.mem_of_mem_drop (List.mem_of_mem_take hy)); simp [go_sem]; done)))) | (refine Qb ?_ ?_; focus kernel_rfl) | ((with_reducible refine And.intro ?_ ?_); focus omega) | (refine z6 hK ?_; clear hK; simp only [go_sem, *]) | (simp only [z5, z4, go_sem, *]))
   all_goals try contradiction
   refine ⟨_, (by omega), [some 0, some 1, some 2, some 3, some 4, some 7], [], _, _, _, (by (simp only [Weak, go_sem, List.map_append, List.map_set, *] <;> (try simp (disch := omega) only [q9]) <;> (try simp) <;> (try omega))), i + 1, rfl, (by omega), (by trivial), rfl, rfl, rfl⟩
 ·have e0 := T5 (L := L) (i := i) (s := 0) (by omega)
  have e1 := T5 (L := L) (i := i) (s := 1) (by omega)
  have e2 := T5 (L := L) (i := i) (s := 2) (by omega)
  repeat' (first | (show z3 ..; first | (refine Qr rfl ?_; try intro _ hK; try simp only [go_sem, *])) | (show Hold ..; first | refine Qh rfl ?_ | refine q6 rfl mixed (by kernel_rfl) ?_ | (refine z7 rfl ⟨_, rfl, fun hb => ?_, fun hb => ?_⟩ <;> (have hc := hb; try simp only [go_sem] at hc)) | refine z8 rfl ?_) | (refine Qb ?_ ?_; focus kernel_rfl) | ((with_reducible refine And.intro ?_ ?_); focus omega) | (refine z6 hK ?_; clear hK; simp only [go_sem, *]) | (simp only [z5, z4, go_sem, *]))
  refine ⟨[.agg [.own 2 1 0 3]], [], [2, 3, 4, 5], ⟨by simp only [x9, go_sem], trivial⟩, ?_⟩
  simp only [go_sem, *]
  try simp [List.take_of_length_le]
end Go.Abs

namespace Go.Abs
open Go Go.Proofs Tryz
attribute [local irreducible] z3 Hold q7
theorem zFl (p : zLI) (c : Change) (hp : p.length ≤ 4294967296) (h1 : zLL c.kind 1 7 = false) : zLJ prog 132 [y5 p, c.enc] [] (.tup [iV 8, .agg [iV c.kind, iV c.street, iV 0, iV 0, iV 0, iV 0, iV 0]]) [] := by
 have hw : IntKind.i64.wrap ((p.length : Int) - 1) = (p.length : Int) - 1 := wrap_i64 (by omega) (by omega)
 have s1 := u2 c.kind 1 7
 rw [h1] at s1
 refine y3 func132 rfl (fun E hE => ?_); simp only [go_sem, ntmps132]
 repeat' (first | (show z3 ..; first | (refine Qr rfl ?_; try intro _ hK; try simp only [go_sem, *])) | (show Hold ..; first | refine Qh rfl ?_ | refine q6 rfl mixed (by kernel_rfl) ?_ | (refine z7 rfl ⟨_, rfl, fun hb => ?_, fun hb => ?_⟩ <;> (have hc := hb; try simp only [go_sem] at hc)) | refine z8 rfl ?_) | (refine Qb ?_ ?_; focus kernel_rfl) | (show q7 ..; first | (refine q8 (s1) ?_ ?_; (focus (simp only [go_sem, *]; done)); simp only [go_sem, *])) | ((with_reducible refine And.intro ?_ ?_); focus omega) | (refine z6 hK ?_; clear hK; simp only [go_sem, *]) | (simp only [z5, z4, go_sem, *]))
 all_goals try contradiction
 refine ⟨[iV 8, .agg [iV c.kind, iV c.street, iV 0, iV 0, iV 0, iV 0, iV 0]], [], [], ⟨rfl, by simp only [x9, go_sem], trivial⟩, ?_⟩
 simp only [go_sem, *]
theorem zFv (p : zLI) (c : Change) (hp : p.length ≤ 4294967296) (h1 : zLL c.kind 1 7 = true) (h2 : zLL c.street 0 ((p.length : Int) - 1) = false) : zLJ prog 132 [y5 p, c.enc] [] (.tup [iV 3, .agg [iV c.kind, iV c.street, iV 0, iV 0, iV 0, iV 0, iV 0]]) [] := by
 have hw : IntKind.i64.wrap ((p.length : Int) - 1) = (p.length : Int) - 1 := wrap_i64 (by omega) (by omega)
 have s1 := u2 c.kind 1 7
 rw [h1] at s1
 have s2 := u2 c.street 0 ((p.length : Int) - 1)
 rw [h2] at s2
 refine y3 func132 rfl (fun E hE => ?_); simp only [go_sem, ntmps132]
 repeat' (first | (show z3 ..; first | (refine Qr rfl ?_; try intro _ hK; try simp only [go_sem, *])) | (show Hold ..; first | refine Qh rfl ?_ | refine q6 rfl mixed (by kernel_rfl) ?_ | (refine z7 rfl ⟨_, rfl, fun hb => ?_, fun hb => ?_⟩ <;> (have hc := hb; try simp only [go_sem] at hc)) | refine z8 rfl ?_) | (refine Qb ?_ ?_; focus kernel_rfl) | (show q7 ..; first | ((first | refine q8 (s1) ?_ ?_ | refine q8 (s2) ?_ ?_); (focus (simp only [go_sem, *]; done)); simp only [go_sem, *])) | ((with_reducible refine And.intro ?_ ?_); focus omega) | (refine z6 hK ?_; clear hK; simp only [go_sem, *]) | (simp only [z5, z4, go_sem, *]))
 all_goals try contradiction
 refine ⟨[iV 3, .agg [iV c.kind, iV c.street, iV 0, iV 0, iV 0, iV 0, iV 0]], [], [], ⟨rfl, by simp only [x9, go_sem], trivial⟩, ?_⟩
 simp only [go_sem, *]
theorem zFr (p : zLI) (c : Change) (hp : p.length ≤ 4294967296) (h1 : zLL c.kind 1 7 = true) (h2 : zLL c.street 0 ((p.length : Int) - 1) = true) (k4 : (c.kind == 4) = true) (k5 : (c.kind == 5) = false) (k6 : (c.kind == 6) = false) (k7 : (c.kind == 7) = false) (h3 : zLL c.other 0 ((p.length : Int) - 1) = false) : zLJ prog 132 [y5 p, c.enc] [] (.tup [iV 3, .agg [iV c.kind, iV c.street, iV c.other, iV 0, iV 0, iV 0, iV 0]]) [] := by
 have hw : IntKind.i64.wrap ((p.length : Int) - 1) = (p.length : Int) - 1 := wrap_i64 (by omega) (by omega)
 have s1 := u2 c.kind 1 7
 rw [h1] at s1
 have s2 := u2 c.street 0 ((p.length : Int) - 1)
 rw [h2] at s2
 have s3 := u2 c.other 0 ((p.length : Int) - 1)
 rw [h3] at s3
 refine y3 func132 rfl (fun E hE => ?_); simp only [go_sem, ntmps132]
 repeat' (first | (show z3 ..; first | (refine Qr rfl ?_; try intro _ hK; try simp only [go_sem, *])) | (show Hold ..; first | refine Qh rfl ?_ | refine q6 rfl mixed (by kernel_rfl) ?_ | (refine z7 rfl ⟨_, rfl, fun hb => ?_, fun hb => ?_⟩ <;> (have hc := hb; try simp only [go_sem] at hc)) | refine z8 rfl ?_) | (refine Qb ?_ ?_; focus kernel_rfl) | (show q7 ..; first | ((first | refine q8 (s1) ?_ ?_ | refine q8 (s2) ?_ ?_ | refine q8 (s3) ?_ ?_); (focus (simp only [go_sem, *]; done)); simp only [go_sem, *])) | ((with_reducible refine And.intro ?_ ?_); focus omega) | (refine z6 hK ?_; clear hK; simp only [go_sem, *]) | (simp only [z5, z4, go_sem, *]))
 all_goals try contradiction
 refine ⟨[iV 3, .agg [iV c.kind, iV c.street, iV c.other, iV 0, iV 0, iV 0, iV 0]], [], [], ⟨rfl, by simp only [x9, go_sem], trivial⟩, ?_⟩
 simp only [go_sem, *]
theorem zFt (p : zLI) (c : Change) (hp : p.length ≤ 4294967296) (h1 : zLL c.kind 1 7 = true) (h2 : zLL c.street 0 ((p.length : Int) - 1) = true) (k4 : (c.kind == 4) = true) (k5 : (c.kind == 5) = false) (k6 : (c.kind == 6) = false) (k7 : (c.kind == 7) = false) (h3 : zLL c.other 0 ((p.length : Int) - 1) = true) (h4 : (c.other == c.street) = true) : zLJ prog 132 [y5 p, c.enc] [] (.tup [iV 4, .agg [iV c.kind, iV c.street, iV c.other, iV 0, iV 0, iV 0, iV 0]]) [] := by
 have hw : IntKind.i64.wrap ((p.length : Int) - 1) = (p.length : Int) - 1 := wrap_i64 (by omega) (by omega)
 have s1 := u2 c.kind 1 7
 rw [h1] at s1
 have s2 := u2 c.street 0 ((p.length : Int) - 1)
 rw [h2] at s2
 have s3 := u2 c.other 0 ((p.length : Int) - 1)
 rw [h3] at s3
 refine y3 func132 rfl (fun E hE => ?_); simp only [go_sem, ntmps132]
 repeat' (first | (show z3 ..; first | (refine Qr rfl ?_; try intro _ hK; try simp only [go_sem, *])) | (show Hold ..; first | refine Qh rfl ?_ | refine q6 rfl mixed (by kernel_rfl) ?_ | (refine z7 rfl ⟨_, rfl, fun hb => ?_, fun hb => ?_⟩ <;> (have hc := hb; try simp only [go_sem] at hc)) | refine z8 rfl ?_) | (refine Qb ?_ ?_; focus kernel_rfl) | (show q7 ..; first | ((first | refine q8 (s1) ?_ ?_ | refine q8 (s2) ?_ ?_ | refine q8 (s3) ?_ ?_); (focus (simp only [go_sem, *]; done)); simp only [go_sem, *])) | ((with_reducible refine And.intro ?_ ?_); focus omega) | (refine z6 hK ?_; clear hK; simp only [go_sem, *]) | (simp only [z5, z4, go_sem, *]))
 all_goals try contradiction
 refine ⟨[iV 4, .agg [iV c.kind, iV c.street, iV c.other, iV 0, iV 0, iV 0, iV 0]], [], [], ⟨rfl, by simp only [x9, go_sem], trivial⟩, ?_⟩
 simp only [go_sem, *]
theorem zFs (p : zLI) (c : Change) (hp : p.length ≤ 4294967296) (h1 : zLL c.kind 1 7 = true) (h2 : zLL c.street 0 ((p.length : Int) - 1) = true) (k4 : (c.kind == 4) = false) (k5 : (c.kind == 5) = false) (k6 : (c.kind == 6) = false) (k7 : (c.kind == 7) = true) (h3 : zLL c.other 0 ((p.length : Int) - 1) = false) : zLJ prog 132 [y5 p, c.enc] [] (.tup [iV 3, .agg [iV c.kind, iV c.street, iV c.other, iV 0, iV 0, iV 0, iV 0]]) [] := by
 have hw : IntKind.i64.wrap ((p.length : Int) - 1) = (p.length : Int) - 1 := wrap_i64 (by omega) (by omega)
 have s1 := u2 c.kind 1 7
 rw [h1] at s1
 have s2 := u2 c.street 0 ((p.length : Int) - 1)
 rw [h2] at s2
 have s3 := u2 c.other 0 ((p.length : Int) - 1)
 rw [h3] at s3
 refine y3 func132 rfl (fun E hE => ?_); simp only [go_sem, ntmps132]
 repeat' (first | (show z3 ..; first | (refine Qr rfl ?_; try intro _ hK; try simp only [go_sem, *])) | (show Hold ..; first | refine Qh rfl ?_ | refine q6 rfl mixed (by kernel_rfl) ?_ | (refine z7 rfl ⟨_, rfl, fun hb => ?_, fun hb => ?_⟩ <;> (have hc := hb; try simp only [go_sem] at hc)) | refine z8 rfl ?_) | (refine Qb ?_ ?_; focus kernel_rfl) | (show q7 ..; first | ((first | refine q8 (s1) ?_ ?_ | refine q8 (s2) ?_ ?_ | refine q8 (s3) ?_ ?_); (focus (simp only [go_sem, *]; done)); simp only [go_sem, *])) | ((with_reducible refine And.intro ?_ ?_); focus omega) | (refine z6 hK ?_; clear hK; simp only [go_sem, *]) | (simp only [z5, z4, go_sem, *]))
 all_goals try contradiction
 refine ⟨[iV 3, .agg [iV c.kind, iV c.street, iV c.other, iV 0, iV 0, iV 0, iV 0]], [], [], ⟨rfl, by simp only [x9, go_sem], trivial⟩, ?_⟩
 simp only [go_sem, *]
theorem zFu (p : zLI) (c : Change) (hp : p.length ≤ 4294967296) (h1 : zLL c.kind 1 7 = true) (h2 : zLL c.street 0 ((p.length : Int) - 1) = true) (k4 : (c.kind == 4) = false) (k5 : (c.kind == 5) = false) (k6 : (c.kind == 6) = false) (k7 : (c.kind == 7) = true) (h3 : zLL c.other 0 ((p.length : Int) - 1) = true) (h4 : (c.other == c.street) = true) : zLJ prog 132 [y5 p, c.enc] [] (.tup [iV 4, .agg [iV c.kind, iV c.street, iV c.other, iV 0, iV 0, iV 0, iV 0]]) [] := by
 have hw : IntKind.i64.wrap ((p.length : Int) - 1) = (p.length : Int) - 1 := wrap_i64 (by omega) (by omega)
 have s1 := u2 c.kind 1 7
 rw [h1] at s1
 have s2 := u2 c.street 0 ((p.length : Int) - 1)
 rw [h2] at s2
 have s3 := u2 c.other 0 ((p.length : Int) - 1)
 rw [h3] at s3
 refine y3 func132 rfl (fun E hE => ?_); simp only [go_sem, ntmps132]
 repeat' (first | (show z3 ..; first | (refine Qr rfl ?_; try intro _ hK; try simp only [go_sem, *])) | (show Hold ..; first | refine Qh rfl ?_ | refine q6 rfl mixed (by kernel_rfl) ?_ | (refine z7 rfl ⟨_, rfl, fun hb => ?_, fun hb => ?_⟩ <;> (have hc := hb; try simp only [go_sem] at hc)) | refine z8 rfl ?_) | (refine Qb ?_ ?_; focus kernel_rfl) | (show q7 ..; first | ((first | refine q8 (s1) ?_ ?_ | refine q8 (s2) ?_ ?_ | refine q8 (s3) ?_ ?_); (focus (simp only [go_sem, *]; done)); simp only [go_sem, *])) | ((with_reducible refine And.intro ?_ ?_); focus omega) | (refine z6 hK ?_; clear hK; simp only [go_sem, *]) | (simp only [z5, z4, go_sem, *]))
 all_goals try contradiction
 refine ⟨[iV 4, .agg [iV c.kind, iV c.street, iV c.other, iV 0, iV 0, iV 0, iV 0]], [], [], ⟨rfl, by simp only [x9, go_sem], trivial⟩, ?_⟩
 simp only [go_sem, *]
theorem zFn (p : zLI) (c : Change) (hp : p.length ≤ 4294967296) (h1 : zLL c.kind 1 7 = true) (h2 : zLL c.street 0 ((p.length : Int) - 1) = true) (k4 : (c.kind == 4) = true) (k5 : (c.kind == 5) = false) (k6 : (c.kind == 6) = false) (k7 : (c.kind == 7) = false) (h3 : zLL c.other 0 ((p.length : Int) - 1) = true) (h4 : (c.other == c.street) = false) : zLJ prog 132 [y5 p, c.enc] [] (.tup [iV 0, .agg [iV c.kind, iV c.street, iV c.other, iV 0, iV 0, iV 0, iV 0]]) [] := by
 have hw : IntKind.i64.wrap ((p.length : Int) - 1) = (p.length : Int) - 1 := wrap_i64 (by omega) (by omega)
 have s1 := u2 c.kind 1 7
 rw [h1] at s1
 have s2 := u2 c.street 0 ((p.length : Int) - 1)
 rw [h2] at s2
 have s3 := u2 c.other 0 ((p.length : Int) - 1)
 rw [h3] at s3
 refine y3 func132 rfl (fun E hE => ?_); simp only [go_sem, ntmps132]
 repeat' (first | (show z3 ..; first | (refine Qr rfl ?_; try intro _ hK; try simp only [go_sem, *])) | (show Hold ..; first | refine Qh rfl ?_ | refine q6 rfl mixed (by kernel_rfl) ?_ | (refine z7 rfl ⟨_, rfl, fun hb => ?_, fun hb => ?_⟩ <;> (have hc := hb; try simp only [go_sem] at hc)) | refine z8 rfl ?_) | (refine Qb ?_ ?_; focus kernel_rfl) | (show q7 ..; first | ((first | refine q8 (s1) ?_ ?_ | refine q8 (s2) ?_ ?_ | refine q8 (s3) ?_ ?_); (focus (simp only [go_sem, *]; done)); simp only [go_sem, *])) | ((with_reducible refine And.intro ?_ ?_); focus omega) | (refine z6 hK ?_; clear hK; simp only [go_sem, *]) | (simp only [z5, z4, go_sem, *]))
 all_goals try contradiction
 refine ⟨[iV 0, .agg [iV c.kind, iV c.street, iV c.other, iV 0, iV 0, iV 0, iV 0]], [], [], ⟨rfl, by simp only [x9, go_sem], trivial⟩, ?_⟩
 simp only [go_sem, *]
theorem zFq (p : zLI) (c : Change) (hp : p.length ≤ 4294967296) (h1 : zLL c.kind 1 7 = true) (h2 : zLL c.street 0 ((p.length : Int) - 1) = true) (k4 : (c.kind == 4) = false) (k5 : (c.kind == 5) = false) (k6 : (c.kind == 6) = false) (k7 : (c.kind == 7) = true) (h3 : zLL c.other 0 ((p.length : Int) - 1) = true) (h4 : (c.other == c.street) = false) : zLJ prog 132 [y5 p, c.enc] [] (.tup [iV 0, .agg [iV c.kind, iV c.street, iV c.other, iV c.src.number, iV c.src.letter, iV c.dst.number, iV c.dst.letter]]) [] := by
 have hw : IntKind.i64.wrap ((p.length : Int) - 1) = (p.length : Int) - 1 := wrap_i64 (by omega) (by omega)
 have s1 := u2 c.kind 1 7
 rw [h1] at s1
 have s2 := u2 c.street 0 ((p.length : Int) - 1)
 rw [h2] at s2
 have s3 := u2 c.other 0 ((p.length : Int) - 1)
 rw [h3] at s3
 refine y3 func132 rfl (fun E hE => ?_); simp only [go_sem, ntmps132]
 repeat' (first | (show z3 ..; first | (refine Qr rfl ?_; try intro _ hK; try simp only [go_sem, *])) | (show Hold ..; first | refine Qh rfl ?_ | refine q6 rfl mixed (by kernel_rfl) ?_ | (refine z7 rfl ⟨_, rfl, fun hb => ?_, fun hb => ?_⟩ <;> (have hc := hb; try simp only [go_sem] at hc)) | refine z8 rfl ?_) | (refine Qb ?_ ?_; focus kernel_rfl) | (show q7 ..; first | ((first | refine q8 (s1) ?_ ?_ | refine q8 (s2) ?_ ?_ | refine q8 (s3) ?_ ?_); (focus (simp only [go_sem, *]; done)); simp only [go_sem, *])) | ((with_reducible refine And.intro ?_ ?_); focus omega) | (refine z6 hK ?_; clear hK; simp only [go_sem, *]) | (simp only [z5, z4, go_sem, *]))
 all_goals try contradiction
 refine ⟨[iV 0, .agg [iV c.kind, iV c.street, iV c.other, iV c.src.number, iV c.src.letter, iV c.dst.number, iV c.dst.letter]], [], [], ⟨rfl, by simp only [x9, go_sem], trivial⟩, ?_⟩
 simp only [go_sem, *]
theorem zFo (p : zLI) (c : Change) (hp : p.length ≤ 4294967296) (h1 : zLL c.kind 1 7 = true) (h2 : zLL c.street 0 ((p.length : Int) - 1) = true) (k4 : (c.kind == 4) = false) (k5 : (c.kind == 5) = true) (k6 : (c.kind == 6) = false) (k7 : (c.kind == 7) = false) : zLJ prog 132 [y5 p, c.enc] [] (.tup [iV 0, .agg [iV c.kind, iV c.street, iV 0, iV c.src.number, iV c.src.letter, iV 0, iV 0]]) [] := by
 have hw : IntKind.i64.wrap ((p.length : Int) - 1) = (p.length : Int) - 1 := wrap_i64 (by omega) (by omega)
 have s1 := u2 c.kind 1 7
 rw [h1] at s1
 have s2 := u2 c.street 0 ((p.length : Int) - 1)
 rw [h2] at s2
 refine y3 func132 rfl (fun E hE => ?_); simp only [go_sem, ntmps132]
 repeat' (first | (show z3 ..; first | (refine Qr rfl ?_; try intro _ hK; try simp only [go_sem, *])) | (show Hold ..; first | refine Qh rfl ?_ | refine q6 rfl mixed (by kernel_rfl) ?_ | (refine z7 rfl ⟨_, rfl, fun hb => ?_, fun hb => ?_⟩ <;> (have hc := hb; try simp only [go_sem] at hc)) | refine z8 rfl ?_) | (refine Qb ?_ ?_; focus kernel_rfl) | (show q7 ..; first | ((first | refine q8 (s1) ?_ ?_ | refine q8 (s2) ?_ ?_); (focus (simp only [go_sem, *]; done)); simp only [go_sem, *])) | ((with_reducible refine And.intro ?_ ?_); focus omega) | (refine z6 hK ?_; clear hK; simp only [go_sem, *]) | (simp only [z5, z4, go_sem, *]))
 all_goals try contradiction
 refine ⟨[iV 0, .agg [iV c.kind, iV c.street, iV 0, iV c.src.number, iV c.src.letter, iV 0, iV 0]], [], [], ⟨rfl, by simp only [x9, go_sem], trivial⟩, ?_⟩
 simp only [go_sem, *]
theorem zFp (p : zLI) (c : Change) (hp : p.length ≤ 4294967296) (h1 : zLL c.kind 1 7 = true) (h2 : zLL c.street 0 ((p.length : Int) - 1) = true) (k4 : (c.kind == 4) = false) (k5 : (c.kind == 5) = false) (k6 : (c.kind == 6) = true) (k7 : (c.kind == 7) = false) : zLJ prog 132 [y5 p, c.enc] [] (.tup [iV 0, .agg [iV c.kind, iV c.street, iV 0, iV c.src.number, iV c.src.letter, iV 0, iV 0]]) [] := by
 have hw : IntKind.i64.wrap ((p.length : Int) - 1) = (p.length : Int) - 1 := wrap_i64 (by omega) (by omega)
 have s1 := u2 c.kind 1 7
 rw [h1] at s1
 have s2 := u2 c.street 0 ((p.length : Int) - 1)
 rw [h2] at s2
 refine y3 func132 rfl (fun E hE => ?_); simp only [go_sem, ntmps132]
 repeat' (first | (show z3 ..; first | (refine Qr rfl ?_; try intro _ hK; try simp only [go_sem, *])) | (show Hold ..; first | refine Qh rfl ?_ | refine q6 rfl mixed (by kernel_rfl) ?_ | (refine z7 rfl ⟨_, rfl, fun hb => ?_, fun hb => ?_⟩ <;> (have hc := hb; try simp only [go_sem] at hc)) | refine z8 rfl ?_) | (refine Qb ?_ ?_; focus kernel_rfl) | (show q7 ..; first | ((first | refine q8 (s1) ?_ ?_ | refine q8 (s2) ?_ ?_); (focus (simp only [go_sem, *]; done)); simp only [go_sem, *])) | ((with_reducible refine And.intro ?_ ?_); focus omega) | (refine z6 hK ?_; clear hK; simp only [go_sem, *]) | (simp only [z5, z4, go_sem, *]))
 all_goals try contradiction
 refine ⟨[iV 0, .agg [iV c.kind, iV c.street, iV 0, iV c.src.number, iV c.src.letter, iV 0, iV 0]], [], [], ⟨rfl, by simp only [x9, go_sem], trivial⟩, ?_⟩
 simp only [go_sem, *]
theorem zFm (p : zLI) (c : Change) (hp : p.length ≤ 4294967296) (h1 : zLL c.kind 1 7 = true) (h2 : zLL c.street 0 ((p.length : Int) - 1) = true) (k4 : (c.kind == 4) = false) (k5 : (c.kind == 5) = false) (k6 : (c.kind == 6) = false) (k7 : (c.kind == 7) = false) : zLJ prog 132 [y5 p, c.enc] [] (.tup [iV 0, .agg [iV c.kind, iV c.street, iV 0, iV 0, iV 0, iV 0, iV 0]]) [] := by
 have hw : IntKind.i64.wrap ((p.length : Int) - 1) = (p.length : Int) - 1 := wrap_i64 (by omega) (by omega)
 have s1 := u2 c.kind 1 7
 rw [h1] at s1
 have s2 := u2 c.street 0 ((p.length : Int) - 1)
 rw [h2] at s2
 refine y3 func132 rfl (fun E hE => ?_); simp only [go_sem, ntmps132]
 repeat' (first | (show z3 ..; first | (refine Qr rfl ?_; try intro _ hK; try simp only [go_sem, *])) | (show Hold ..; first | refine Qh rfl ?_ | refine q6 rfl mixed (by kernel_rfl) ?_ | (refine z7 rfl ⟨_, rfl, fun hb => ?_, fun hb => ?_⟩ <;> (have hc := hb; try simp only [go_sem] at hc)) | refine z8 rfl ?_) | (refine Qb ?_ ?_; focus kernel_rfl) | (show q7 ..; first | ((first | refine q8 (s1) ?_ ?_ | refine q8 (s2) ?_ ?_); (focus (simp only [go_sem, *]; done)); simp only [go_sem, *])) | ((with_reducible refine And.intro ?_ ?_); focus omega) | (refine z6 hK ?_; clear hK; simp only [go_sem, *]) | (simp only [z5, z4, go_sem, *]))
 all_goals try contradiction
 refine ⟨[iV 0, .agg [iV c.kind, iV c.street, iV 0, iV 0, iV 0, iV 0, iV 0]], [], [], ⟨rfl, by simp only [x9, go_sem], trivial⟩, ?_⟩
 simp only [go_sem, *]
def s5 (p : zLI) (c : Change) : Int :=
 if zLL c.kind 1 7 = false then 8
 else if zLL c.street 0 (p.length - 1) = false then 3
 else if (c.kind = 4 ∨ c.kind = 7) ∧ zLL c.other 0 (p.length - 1) = false then 3
 else if (c.kind = 4 ∨ c.kind = 7) ∧ c.other = c.street then 4 else 0
def f6 (c : Change) : Change := ⟨c.kind, c.street, if c.kind = 4 ∨ c.kind = 7 then c.other else 0, if 5 ≤ c.kind then c.src else zeroPlate, if c.kind = 7 then c.dst else zeroPlate⟩
theorem zDQ (p : zLI) (c : Change) : can p c = if s5 p c = 0 then (if c = f6 c then y9 p c else 1) else s5 p c := by
 unfold can s5
 by_cases h1 : zLL c.kind 1 7 = false
 ·rw [if_pos h1, if_pos h1, if_neg (by decide)]
 rw [if_neg h1, if_neg h1]
 by_cases h2 : zLL c.street 0 (p.length - 1) = false
 ·rw [if_pos h2, if_pos h2, if_neg (by decide)]
 rw [if_neg h2, if_neg h2]
 by_cases h3 : (c.kind = 4 ∨ c.kind = 7) ∧ zLL c.other 0 (p.length - 1) = false
 ·rw [if_pos h3, if_pos h3, if_neg (by decide)]
 rw [if_neg h3, if_neg h3]
 by_cases h4 : (c.kind = 4 ∨ c.kind = 7) ∧ c.other = c.street
 ·rw [if_pos h4, if_pos h4, if_neg (by decide)]
 rw [if_neg h4, if_neg h4, if_pos rfl]
 by_cases h5 : (¬ (c.kind = 4 ∨ c.kind = 7) ∧ c.other ≠ 0) ∨ (¬ 5 ≤ c.kind ∧ c.src ≠ zeroPlate) ∨ (¬ c.kind = 7 ∧ c.dst ≠ zeroPlate)
 ·rw [if_pos h5, if_neg]
  intro e
  rw [Change.eq_iff] at e
  obtain ⟨_, _, e1, e2, e3⟩ := e
  simp only [f6] at e1 e2 e3
  rcases h5 with ⟨a, b⟩ | ⟨a, b⟩ | ⟨a, b⟩
  ·rw [if_neg a] at e1; exact b e1
  ·rw [if_neg a] at e2; exact b e2
  ·rw [if_neg a] at e3; exact b e3
 ·rw [if_neg h5, if_pos]
  rw [Change.eq_iff]
  refine ⟨rfl, rfl, ?_, ?_, ?_⟩
  ·simp only [f6]
   split
   ·rfl
   ·rename_i a; exact Classical.byContradiction fun b => h5 (.inl ⟨a, b⟩)
  ·simp only [f6]
   split
   ·rfl
   ·rename_i a; exact Classical.byContradiction fun b => h5 (.inr (.inl ⟨a, b⟩))
  ·simp only [f6]
   split
   ·rfl
   ·rename_i a; exact Classical.byContradiction fun b => h5 (.inr (.inr ⟨a, b⟩))
theorem zHQ (p : zLI) (c : Change) (hp : p.length ≤ 4294967296) : ∃ x : Change, (s5 p c = 0 → x = f6 c) ∧ zLJ prog 132 [y5 p, c.enc] [] (.tup [iV (s5 p c), x.enc]) [] := by
 have bt : ∀ {b : Bool}, ¬ b = false → b = true := fun h => by simpa using h
 have nk : ∀ n : Int, ¬ c.kind = n → (c.kind == n) = false := fun n h => by rw [beq_eq_false_iff_ne]; exact h
 have yk : ∀ n : Int, c.kind = n → (c.kind == n) = true := fun n h => by rw [beq_iff_eq]; exact h
 by_cases h1 : zLL c.kind 1 7 = false
 ·have e : s5 p c = 8 := by unfold s5; rw [if_pos h1]
  rw [e]
  exact ⟨⟨c.kind, c.street, 0, zeroPlate, zeroPlate⟩, fun h => by omega, zFl p c hp h1⟩
 by_cases h2 : zLL c.street 0 (p.length - 1) = false
 ·have e : s5 p c = 3 := by unfold s5; rw [if_neg h1, if_pos h2]
  rw [e]
  exact ⟨⟨c.kind, c.street, 0, zeroPlate, zeroPlate⟩, fun h => by omega, zFv p c hp (bt h1) h2⟩
 have b1 := bt h1
 have b2 := bt h2
 by_cases k47 : c.kind = 4 ∨ c.kind = 7
 ·by_cases h3 : zLL c.other 0 (p.length - 1) = false
  ·have e : s5 p c = 3 := by unfold s5; rw [if_neg h1, if_neg h2, if_pos ⟨k47, h3⟩]
   rw [e]
   refine ⟨⟨c.kind, c.street, c.other, zeroPlate, zeroPlate⟩, fun h => by omega, ?_⟩
   rcases k47 with k | k
   ·exact zFr p c hp b1 b2 (yk 4 k) (nk 5 (by omega)) (nk 6 (by omega)) (nk 7 (by omega)) h3
   ·exact zFs p c hp b1 b2 (nk 4 (by omega)) (nk 5 (by omega)) (nk 6 (by omega)) (yk 7 k) h3
  ·have b3 := bt h3
   by_cases h4 : c.other = c.street
   ·have e : s5 p c = 4 := by unfold s5; rw [if_neg h1, if_neg h2, if_neg (fun h => h3 h.2), if_pos ⟨k47, h4⟩]
    have s4 : (c.other == c.street) = true := by rw [beq_iff_eq]; exact h4
    rw [e]
    refine ⟨⟨c.kind, c.street, c.other, zeroPlate, zeroPlate⟩, fun h => by omega, ?_⟩
    rcases k47 with k | k
    ·exact zFt p c hp b1 b2 (yk 4 k) (nk 5 (by omega)) (nk 6 (by omega)) (nk 7 (by omega)) b3 s4
    ·exact zFu p c hp b1 b2 (nk 4 (by omega)) (nk 5 (by omega)) (nk 6 (by omega)) (yk 7 k) b3 s4
   ·have e : s5 p c = 0 := by unfold s5; rw [if_neg h1, if_neg h2, if_neg (fun h => h3 h.2), if_neg (fun h => h4 h.2)]
    have s4 : (c.other == c.street) = false := by rw [beq_eq_false_iff_ne]; exact h4
    rw [e]
    rcases k47 with k | k
    ·refine ⟨⟨c.kind, c.street, c.other, zeroPlate, zeroPlate⟩, fun _ => ?_, zFn p c hp b1 b2 (yk 4 k) (nk 5 (by omega)) (nk 6 (by omega)) (nk 7 (by omega)) b3 s4⟩
     unfold f6; simp [k]
    ·refine ⟨⟨c.kind, c.street, c.other, c.src, c.dst⟩, fun _ => ?_, zFq p c hp b1 b2 (nk 4 (by omega)) (nk 5 (by omega)) (nk 6 (by omega)) (yk 7 k) b3 s4⟩
     unfold f6; simp [k]
 ·have e : s5 p c = 0 := by unfold s5; rw [if_neg h1, if_neg h2, if_neg (fun h => k47 h.1), if_neg (fun h => k47 h.1)]
  rw [e]
  by_cases k5 : c.kind = 5
  ·refine ⟨⟨c.kind, c.street, 0, c.src, zeroPlate⟩, fun _ => ?_, zFo p c hp b1 b2 (nk 4 (by omega)) (yk 5 k5) (nk 6 (by omega)) (nk 7 (by omega))⟩
   unfold f6; simp [k5]
  ·by_cases k6 : c.kind = 6
   ·refine ⟨⟨c.kind, c.street, 0, c.src, zeroPlate⟩, fun _ => ?_, zFp p c hp b1 b2 (nk 4 (by omega)) (nk 5 k5) (yk 6 k6) (nk 7 (by omega))⟩
    unfold f6; simp [k6]
   ·have hk := betw_iff.1 b1
    refine ⟨⟨c.kind, c.street, 0, zeroPlate, zeroPlate⟩, fun _ => ?_, zFm p c hp b1 b2 (nk 4 (by omega)) (nk 5 k5) (nk 6 k6) (nk 7 (by omega))⟩
    unfold f6
    rw [if_neg k47, if_neg (by omega), if_neg (by omega)]
end Go.Abs

namespace Go.Abs
open Go Go.Proofs Tryz
attribute [local irreducible] z3 Hold q7
theorem zBW (l : List Plate) (x : Plate) : zLS l x < 0 ↔ x ∉ l := by
 unfold zLS
 split
 ·rename_i h; simp [h]
 ·rename_i h; simp [h]
theorem I6 {l : List Plate} {x : Plate} (h : x ∈ l) : ¬ zLS l x < 0 := fun e => (zBW l x).1 e h
theorem I5 {l : List Plate} {x : Plate} (h : x ∉ l) : zLS l x < 0 := (zBW l x).2 h
theorem zD2 (p : zLI) (c : Change) (v : Valid p) (hs : 0 ≤ c.street ∧ c.street < p.length) (ho : 0 ≤ c.other ∧ c.other < p.length) (k : c.kind = 4) (R : Int) (hR : y9 p c = R) : zLJ prog 133 [y5 p, c.enc] [] (iV R) [] := by
 have hl := (v.row c.street).len
 have hol := (v.row c.other).len
 have hob := E1 (v.row c.other)
 have hok := (v.row c.street).ok
 have sb := zCO (z9 p c.other) (by omega) (v.row c.other).ok
 have hs' : c.street.toNat < p.length := by omega
 have ho' : c.other.toNat < p.length := by omega
 obtain ⟨hs0, hs1⟩ := hs
 obtain ⟨ho0, ho1⟩ := ho
 have hw : IntKind.i64.wrap (((z9 p c.street).length : Int) + ((z9 p c.other).length : Int)) = ((z9 p c.street).length : Int) + ((z9 p c.other).length : Int) := wrap_i64 (by omega) (by omega)
 rw [J4 k] at hR
 have k' : (c.kind == 4) = true := by rw [beq_iff_eq]; exact k
 clear k
 by_cases q : 8 < (z9 p c.street).length + (z9 p c.other).length
 ·rw [if_pos q] at hR
  have q' : ((z9 p c.street).length : Int) + ((z9 p c.other).length : Int) > 8 := by omega
  subst hR
  clear hob hok
  refine y3 func133 rfl (fun E hE => ?_); simp only [go_sem, ntmps133]
  repeat' (first | (show z3 ..; first | (refine Qr rfl ?_; try intro _ hK; try simp only [go_sem, *]) | (refine Qi rfl rfl rfl rfl (fun hb _ hK => ?_) (fun hb => ?_) <;> (have hc := hb; try simp only [go_sem] at hc; simp only [go_sem, *]))) | (show Hold ..; first | refine Qh rfl ?_ | refine q6 rfl mixed (by kernel_rfl) ?_ | (refine z7 rfl ⟨_, rfl, fun hb => ?_, fun hb => ?_⟩ <;> (have hc := hb; try simp only [go_sem] at hc)) | refine z8 rfl ?_) | (refine Qb ?_ ?_; focus kernel_rfl) | ((with_reducible refine And.intro ?_ ?_); focus omega) | (refine z6 hK ?_; clear hK; simp only [go_sem, *]) | (simp only [z5, z4, go_sem, *]))
  all_goals first | contradiction | omega | skip
  (refine ⟨[_], [], [], ⟨rfl, trivial⟩, ?_⟩; simp only [go_sem, *])
 ·rw [if_neg q] at hR
  have q' : ¬ ((z9 p c.street).length : Int) + ((z9 p c.other).length : Int) > 8 := by omega
  have hR0 : (if ((z9 p c.street).drop 0).any (fun x => decide (40 < x.number + base (z9 p c.other))) = true then (1 : Int) else 0) = R := hR
  clear hR q
  generalize base (z9 p c.other) = bb at *
  refine y3 func133 rfl (fun E hE => ?_); simp only [go_sem, ntmps133]
  repeat' (first | (show z3 ..; first | (refine Qr rfl ?_; try intro _ hK; try simp only [go_sem, *]) | (refine Qi rfl rfl rfl rfl (fun hb _ hK => ?_) (fun hb => ?_) <;> (have hc := hb; try simp only [go_sem] at hc; simp only [go_sem, *]))) | (show Hold ..; first | refine Qh rfl ?_ | refine q6 rfl mixed (by kernel_rfl) ?_ | (refine z7 rfl ⟨_, rfl, fun hb => ?_, fun hb => ?_⟩ <;> (have hc := hb; try simp only [go_sem] at hc)) | refine z8 rfl ?_) | (refine Qb ?_ ?_; focus kernel_rfl) | ((with_reducible refine And.intro ?_ ?_); focus omega) | (refine z6 hK ?_; clear hK; simp only [go_sem, *]) | (simp only [z5, z4, go_sem, *]))
  all_goals first | contradiction | omega | skip
  generalize hll : z9 p c.street = l at *
  refine y8 rfl (fun zn zN zenv zAs => ∃ (i : Nat), zn = (l.length) - i ∧ i ≤ (l.length) ∧ ((if (l.drop i).any (fun x => decide (40 < x.number + bb)) = true then (1 : Int) else 0) = R) ∧ zN = 97 ∧ zenv = [(7, iV i), (6, y6 (z9 p c.other)), (5, y6 l)] ∧ zAs = []) (l.length) ⟨[], [], _, _, _, (by (simp only [Weak, go_sem, List.map_append, List.map_set, *] <;> (try simp (disch := omega) only [q9]) <;> (try simp) <;> (try omega))), 0, (by simp), (by simp), (by exact hR0), rfl, rfl, rfl⟩ ?_; rintro _ _ _ _ ⟨i, rfl, hi, hP, rfl, rfl, rfl⟩
  clear hR0
  by_cases hi2 : i < l.length
  ·have hx := (u0 _).1 (hok _ (w6 hi2))
   rw [v3 hi2, List.any_cons] at hP
   have hwx : IntKind.i64.wrap ((l.getD i default).number + bb) = (l.getD i default).number + bb := wrap_i64 (by omega) (by omega)
   by_cases r : 40 < (l.getD i default).number + bb
   ·have e : decide (40 < (l.getD i default).number + bb) = true := by simpa using r
    rw [e, Bool.true_or, if_pos rfl] at hP
    have r' : (l.getD i default).number + bb > 40 := r
    clear e r
    subst hP
    repeat' (first | (show z3 ..; first | (refine Qr rfl ?_; try intro _ hK; try simp only [go_sem, *]) | (refine Qi rfl rfl rfl rfl (fun hb _ hK => ?_) (fun hb => ?_) <;> (have hc := hb; try simp only [go_sem] at hc; simp only [go_sem, *]))) | (show Hold ..; first | refine Qh rfl ?_ | refine q6 rfl mixed (by kernel_rfl) ?_ | (refine z7 rfl ⟨_, rfl, fun hb => ?_, fun hb => ?_⟩ <;> (have hc := hb; try simp only [go_sem] at hc)) | refine z8 rfl ?_) | (refine Qb ?_ ?_; focus kernel_rfl) | (show q7 ..; first | (refine q8 (sb) ?_ ?_; (focus (simp only [go_sem, *]; done)); simp only [go_sem, *])) | ((with_reducible refine And.intro ?_ ?_); focus omega) | (refine z6 hK ?_; clear hK; simp only [go_sem, *]) | (simp only [z5, z4, go_sem, *]))
    all_goals first | contradiction | omega | skip
    (refine ⟨[_], [], [], ⟨rfl, trivial⟩, ?_⟩; simp only [go_sem, *])
   ·have e : decide (40 < (l.getD i default).number + bb) = false := by simpa using r
    rw [e, Bool.false_or] at hP
    have r' : ¬ (l.getD i default).number + bb > 40 := r
    clear e r
    repeat' (first | (show z3 ..; first | (refine Qr rfl ?_; try intro _ hK; try simp only [go_sem, *]) | (refine Qi rfl rfl rfl rfl (fun hb _ hK => ?_) (fun hb => ?_) <;> (have hc := hb; try simp only [go_sem] at hc; simp only [go_sem, *]))) | (show Hold ..; first | refine Qh rfl ?_ | refine q6 rfl mixed (by kernel_rfl) ?_ | (refine z7 rfl ⟨_, rfl, fun hb => ?_, fun hb => ?_⟩ <;> (have hc := hb; try simp only [go_sem] at hc)) | refine z8 rfl ?_) | (refine Qb ?_ ?_; focus kernel_rfl) | (show q7 ..; first | (refine q8 (sb) ?_ ?_; (focus (simp only [go_sem, *]; done)); simp only [go_sem, *])) | ((with_reducible refine And.intro ?_ ?_); focus omega) | (refine z6 hK ?_; clear hK; simp only [go_sem, *]) | (simp only [z5, z4, go_sem, *]))
    all_goals first | contradiction | omega | skip
    refine ⟨_, (by omega), [], [], _, _, _, (by (simp only [Weak, go_sem, List.map_append, List.map_set, *] <;> (try simp (disch := omega) only [q9]) <;> (try simp) <;> (try omega))), i + 1, rfl, (by omega), (by exact hP), rfl, rfl, rfl⟩
  ·rw [v4 (by omega), List.any_nil, if_neg (by decide)] at hP
   subst hP
   repeat' (first | (show z3 ..; first | (refine Qr rfl ?_; try intro _ hK; try simp only [go_sem, *]) | (refine Qi rfl rfl rfl rfl (fun hb _ hK => ?_) (fun hb => ?_) <;> (have hc := hb; try simp only [go_sem] at hc; simp only [go_sem, *]))) | (show Hold ..; first | refine Qh rfl ?_ | refine q6 rfl mixed (by kernel_rfl) ?_ | (refine z7 rfl ⟨_, rfl, fun hb => ?_, fun hb => ?_⟩ <;> (have hc := hb; try simp only [go_sem] at hc)) | refine z8 rfl ?_) | (refine Qb ?_ ?_; focus kernel_rfl) | ((with_reducible refine And.intro ?_ ?_); focus omega) | (refine z6 hK ?_; clear hK; simp only [go_sem, *]) | (simp only [z5, z4, go_sem, *]))
   (refine ⟨[_], [], [], ⟨rfl, trivial⟩, ?_⟩; simp only [go_sem, *])
theorem zD3 (p : zLI) (c : Change) (v : Valid p) (hs : 0 ≤ c.street ∧ c.street < p.length) (k : c.kind = 5) (R : Int) (hR : y9 p c = R) : zLJ prog 133 [y5 p, c.enc] [] (iV R) [] := by
 have hl := (v.row c.street).len
 have hs' : c.street.toNat < p.length := by omega
 obtain ⟨hs0, hs1⟩ := hs
 rw [S4 k] at hR
 have k' : (c.kind == 5) = true := by rw [beq_iff_eq]; exact k
 have k4 : (c.kind == 4) = false := by rw [beq_eq_false_iff_ne]; omega
 clear k
 have s1 := k9 (z9 p c.street) c.src (by omega)
 have s2 := zCW (z9 p c.street) c.src.number (by omega)
 by_cases q : c.src ∈ z9 p c.street
 ·rw [if_neg (by simpa using q)] at hR
  have q' := I6 q
  clear q
  generalize zLS (z9 p c.street) c.src = ix at *
  generalize letter (z9 p c.street) c.src.number = lt at *
  by_cases r : (z9 p c.street).length = 8
  ·rw [if_pos (.inl r)] at hR
   have r' : (((z9 p c.street).length : Int) == 8) = true := by rw [beq_iff_eq]; omega
   clear r
   subst hR
   refine y3 func133 rfl (fun E hE => ?_); simp only [go_sem, ntmps133]
   repeat' (first | (show z3 ..; first | (refine Qr rfl ?_; try intro _ hK; try simp only [go_sem, *]) | (refine Qi rfl rfl rfl rfl (fun hb _ hK => ?_) (fun hb => ?_) <;> (have hc := hb; try simp only [go_sem] at hc; simp only [go_sem, *]))) | (show Hold ..; first | refine Qh rfl ?_ | refine q6 rfl mixed (by kernel_rfl) ?_ | (refine z7 rfl ⟨_, rfl, fun hb => ?_, fun hb => ?_⟩ <;> (have hc := hb; try simp only [go_sem] at hc)) | refine z8 rfl ?_) | (refine Qb ?_ ?_; focus kernel_rfl) | (show q7 ..; first | ((first | refine q8 (s1) ?_ ?_ | refine q8 (s2) ?_ ?_); (focus (simp only [go_sem, *]; done)); simp only [go_sem, *])) | ((with_reducible refine And.intro ?_ ?_); focus omega) | (refine z6 hK ?_; clear hK; simp only [go_sem, *]) | (simp only [z5, z4, go_sem, *]))
   all_goals first | contradiction | omega | skip
   (refine ⟨[_], [], [], ⟨rfl, trivial⟩, ?_⟩; simp only [go_sem, *])
  ·have r' : (((z9 p c.street).length : Int) == 8) = false := by rw [beq_eq_false_iff_ne]; omega
   by_cases t : lt = 0
   ·rw [if_pos (.inr t)] at hR
    clear r
    subst t
    subst hR
    refine y3 func133 rfl (fun E hE => ?_); simp only [go_sem, ntmps133]
    repeat' (first | (show z3 ..; first | (refine Qr rfl ?_; try intro _ hK; try simp only [go_sem, *]) | (refine Qi rfl rfl rfl rfl (fun hb _ hK => ?_) (fun hb => ?_) <;> (have hc := hb; try simp only [go_sem] at hc; simp only [go_sem, *]))) | (show Hold ..; first | refine Qh rfl ?_ | refine q6 rfl mixed (by kernel_rfl) ?_ | (refine z7 rfl ⟨_, rfl, fun hb => ?_, fun hb => ?_⟩ <;> (have hc := hb; try simp only [go_sem] at hc)) | refine z8 rfl ?_) | (refine Qb ?_ ?_; focus kernel_rfl) | (show q7 ..; first | ((first | refine q8 (s1) ?_ ?_ | refine q8 (s2) ?_ ?_); (focus (simp only [go_sem, *]; done)); simp only [go_sem, *])) | ((with_reducible refine And.intro ?_ ?_); focus omega) | (refine z6 hK ?_; clear hK; simp only [go_sem, *]) | (simp only [z5, z4, go_sem, *]))
    all_goals first | contradiction | omega | skip
    (refine ⟨[_], [], [], ⟨rfl, trivial⟩, ?_⟩; simp only [go_sem, *])
   ·rw [if_neg (by rintro (h | h); exact r h; exact t h)] at hR
    have t' : (lt == 0) = false := by rw [beq_eq_false_iff_ne]; exact t
    clear r t
    subst hR
    refine y3 func133 rfl (fun E hE => ?_); simp only [go_sem, ntmps133]
    repeat' (first | (show z3 ..; first | (refine Qr rfl ?_; try intro _ hK; try simp only [go_sem, *]) | (refine Qi rfl rfl rfl rfl (fun hb _ hK => ?_) (fun hb => ?_) <;> (have hc := hb; try simp only [go_sem] at hc; simp only [go_sem, *]))) | (show Hold ..; first | refine Qh rfl ?_ | refine q6 rfl mixed (by kernel_rfl) ?_ | (refine z7 rfl ⟨_, rfl, fun hb => ?_, fun hb => ?_⟩ <;> (have hc := hb; try simp only [go_sem] at hc)) | refine z8 rfl ?_) | (refine Qb ?_ ?_; focus kernel_rfl) | (show q7 ..; first | ((first | refine q8 (s1) ?_ ?_ | refine q8 (s2) ?_ ?_); (focus (simp only [go_sem, *]; done)); simp only [go_sem, *])) | ((with_reducible refine And.intro ?_ ?_); focus omega) | (refine z6 hK ?_; clear hK; simp only [go_sem, *]) | (simp only [z5, z4, go_sem, *]))
    all_goals first | contradiction | omega | skip
    (refine ⟨[_], [], [], ⟨rfl, trivial⟩, ?_⟩; simp only [go_sem, *])
 ·rw [if_pos q] at hR
  have q' := I5 q
  clear q
  generalize zLS (z9 p c.street) c.src = ix at *
  subst hR
  refine y3 func133 rfl (fun E hE => ?_); simp only [go_sem, ntmps133]
  repeat' (first | (show z3 ..; first | (refine Qr rfl ?_; try intro _ hK; try simp only [go_sem, *]) | (refine Qi rfl rfl rfl rfl (fun hb _ hK => ?_) (fun hb => ?_) <;> (have hc := hb; try simp only [go_sem] at hc; simp only [go_sem, *]))) | (show Hold ..; first | refine Qh rfl ?_ | refine q6 rfl mixed (by kernel_rfl) ?_ | (refine z7 rfl ⟨_, rfl, fun hb => ?_, fun hb => ?_⟩ <;> (have hc := hb; try simp only [go_sem] at hc)) | refine z8 rfl ?_) | (refine Qb ?_ ?_; focus kernel_rfl) | (show q7 ..; first | (refine q8 (s1) ?_ ?_; (focus (simp only [go_sem, *]; done)); simp only [go_sem, *])) | ((with_reducible refine And.intro ?_ ?_); focus omega) | (refine z6 hK ?_; clear hK; simp only [go_sem, *]) | (simp only [z5, z4, go_sem, *]))
  all_goals first | contradiction | omega | skip
  (refine ⟨[_], [], [], ⟨rfl, trivial⟩, ?_⟩; simp only [go_sem, *])
theorem zD4 (p : zLI) (c : Change) (v : Valid p) (hs : 0 ≤ c.street ∧ c.street < p.length) (k : c.kind = 6) (R : Int) (hR : y9 p c = R) : zLJ prog 133 [y5 p, c.enc] [] (iV R) [] := by
 have hl := (v.row c.street).len
 have hs' : c.street.toNat < p.length := by omega
 obtain ⟨hs0, hs1⟩ := hs
 rw [D4 k] at hR
 have k' : (c.kind == 6) = true := by rw [beq_iff_eq]; exact k
 have k4 : (c.kind == 4) = false := by rw [beq_eq_false_iff_ne]; omega
 have k5 : (c.kind == 5) = false := by rw [beq_eq_false_iff_ne]; omega
 clear k
 have s1 := k9 (z9 p c.street) c.src (by omega)
 by_cases q : c.src ∈ z9 p c.street
 ·rw [if_neg (by simpa using q)] at hR
  have q' := I6 q
  clear q
  generalize zLS (z9 p c.street) c.src = ix at *
  subst hR
  refine y3 func133 rfl (fun E hE => ?_); simp only [go_sem, ntmps133]
  repeat' (first | (show z3 ..; first | (refine Qr rfl ?_; try intro _ hK; try simp only [go_sem, *]) | (refine Qi rfl rfl rfl rfl (fun hb _ hK => ?_) (fun hb => ?_) <;> (have hc := hb; try simp only [go_sem] at hc; simp only [go_sem, *]))) | (show Hold ..; first | refine Qh rfl ?_ | refine q6 rfl mixed (by kernel_rfl) ?_ | (refine z7 rfl ⟨_, rfl, fun hb => ?_, fun hb => ?_⟩ <;> (have hc := hb; try simp only [go_sem] at hc)) | refine z8 rfl ?_) | (refine Qb ?_ ?_; focus kernel_rfl) | (show q7 ..; first | (refine q8 (s1) ?_ ?_; (focus (simp only [go_sem, *]; done)); simp only [go_sem, *])) | ((with_reducible refine And.intro ?_ ?_); focus omega) | (refine z6 hK ?_; clear hK; simp only [go_sem, *]) | (simp only [z5, z4, go_sem, *]))
  all_goals first | contradiction | omega | skip
  (refine ⟨[_], [], [], ⟨rfl, trivial⟩, ?_⟩; simp only [go_sem, *])
 ·rw [if_pos q] at hR
  have q' := I5 q
  clear q
  generalize zLS (z9 p c.street) c.src = ix at *
  subst hR
  refine y3 func133 rfl (fun E hE => ?_); simp only [go_sem, ntmps133]
  repeat' (first | (show z3 ..; first | (refine Qr rfl ?_; try intro _ hK; try simp only [go_sem, *]) | (refine Qi rfl rfl rfl rfl (fun hb _ hK => ?_) (fun hb => ?_) <;> (have hc := hb; try simp only [go_sem] at hc; simp only [go_sem, *]))) | (show Hold ..; first | refine Qh rfl ?_ | refine q6 rfl mixed (by kernel_rfl) ?_ | (refine z7 rfl ⟨_, rfl, fun hb => ?_, fun hb => ?_⟩ <;> (have hc := hb; try simp only [go_sem] at hc)) | refine z8 rfl ?_) | (refine Qb ?_ ?_; focus kernel_rfl) | (show q7 ..; first | (refine q8 (s1) ?_ ?_; (focus (simp only [go_sem, *]; done)); simp only [go_sem, *])) | ((with_reducible refine And.intro ?_ ?_); focus omega) | (refine z6 hK ?_; clear hK; simp only [go_sem, *]) | (simp only [z5, z4, go_sem, *]))
  all_goals first | contradiction | omega | skip
  (refine ⟨[_], [], [], ⟨rfl, trivial⟩, ?_⟩; simp only [go_sem, *])
theorem zD5 (p : zLI) (c : Change) (v : Valid p) (hs : 0 ≤ c.street ∧ c.street < p.length) (ho : 0 ≤ c.other ∧ c.other < p.length) (k : c.kind = 7) (R : Int) (hR : y9 p c = R) : zLJ prog 133 [y5 p, c.enc] [] (iV R) [] := by
 have hl := (v.row c.street).len
 have hs' : c.street.toNat < p.length := by omega
 have ho' : c.other.toNat < p.length := by omega
 obtain ⟨hs0, hs1⟩ := hs
 obtain ⟨ho0, ho1⟩ := ho
 rw [N2 k] at hR
 have k' : (c.kind == 7) = true := by rw [beq_iff_eq]; exact k
 have k4 : (c.kind == 4) = false := by rw [beq_eq_false_iff_ne]; omega
 have k5 : (c.kind == 5) = false := by rw [beq_eq_false_iff_ne]; omega
 have k6 : (c.kind == 6) = false := by rw [beq_eq_false_iff_ne]; omega
 clear k
 have s1 := k9 (z9 p c.street) c.src (by omega)
 have s2 := k9 (z9 p c.street) c.dst (by omega)
 have s3 := L4 c.dst c.src
 by_cases q : c.src ∈ z9 p c.street
 ·have q' := I6 q
  by_cases r : c.dst ∈ z9 p c.street
  ·have r' := I6 r
   rw [if_neg (by rintro (h | h); exact h q; exact h r)] at hR
   clear q r
   generalize zLS (z9 p c.street) c.src = ix at *
   generalize zLS (z9 p c.street) c.dst = iy at *
   by_cases t : c.dst.lt c.src = true
   ·rw [if_pos t] at hR
    rw [t] at s3
    clear t
    subst hR
    refine y3 func133 rfl (fun E hE => ?_); simp only [go_sem, ntmps133]
    repeat' (first | (show z3 ..; first | (refine Qr rfl ?_; try intro _ hK; try simp only [go_sem, *]) | (refine Qi rfl rfl rfl rfl (fun hb _ hK => ?_) (fun hb => ?_) <;> (have hc := hb; try simp only [go_sem] at hc; simp only [go_sem, *]))) | (show Hold ..; first | refine Qh rfl ?_ | refine q6 rfl mixed (by kernel_rfl) ?_ | (refine z7 rfl ⟨_, rfl, fun hb => ?_, fun hb => ?_⟩ <;> (have hc := hb; try simp only [go_sem] at hc)) | refine z8 rfl ?_) | (refine Qb ?_ ?_; focus kernel_rfl) | (show q7 ..; first | ((first | refine q8 (s1) ?_ ?_ | refine q8 (s2) ?_ ?_ | refine q8 (s3) ?_ ?_); (focus (simp only [go_sem, *]; done)); simp only [go_sem, *])) | ((with_reducible refine And.intro ?_ ?_); focus omega) | (refine z6 hK ?_; clear hK; simp only [go_sem, *]) | (simp only [z5, z4, go_sem, *]))
    all_goals first | contradiction | omega | skip
    (refine ⟨[_], [], [], ⟨rfl, trivial⟩, ?_⟩; simp only [go_sem, *])
   ·rw [if_neg t] at hR
    rw [Bool.not_eq_true] at t
    rw [t] at s3
    clear t
    by_cases u : 0 < (z9 p c.other).length
    ·rw [if_pos u] at hR
     subst hR
     refine y3 func133 rfl (fun E hE => ?_); simp only [go_sem, ntmps133]
     repeat' (first | (show z3 ..; first | (refine Qr rfl ?_; try intro _ hK; try simp only [go_sem, *]) | (refine Qi rfl rfl rfl rfl (fun hb _ hK => ?_) (fun hb => ?_) <;> (have hc := hb; try simp only [go_sem] at hc; simp only [go_sem, *]))) | (show Hold ..; first | refine Qh rfl ?_ | refine q6 rfl mixed (by kernel_rfl) ?_ | (refine z7 rfl ⟨_, rfl, fun hb => ?_, fun hb => ?_⟩ <;> (have hc := hb; try simp only [go_sem] at hc)) | refine z8 rfl ?_) | (refine Qb ?_ ?_; focus kernel_rfl) | (show q7 ..; first | ((first | refine q8 (s1) ?_ ?_ | refine q8 (s2) ?_ ?_ | refine q8 (s3) ?_ ?_); (focus (simp only [go_sem, *]; done)); simp only [go_sem, *])) | ((with_reducible refine And.intro ?_ ?_); focus omega) | (refine z6 hK ?_; clear hK; simp only [go_sem, *]) | (simp only [z5, z4, go_sem, *]))
     all_goals first | contradiction | omega | skip
     (refine ⟨[_], [], [], ⟨rfl, trivial⟩, ?_⟩; simp only [go_sem, *])
    ·rw [if_neg u] at hR
     subst hR
     refine y3 func133 rfl (fun E hE => ?_); simp only [go_sem, ntmps133]
     repeat' (first | (show z3 ..; first | (refine Qr rfl ?_; try intro _ hK; try simp only [go_sem, *]) | (refine Qi rfl rfl rfl rfl (fun hb _ hK => ?_) (fun hb => ?_) <;> (have hc := hb; try simp only [go_sem] at hc; simp only [go_sem, *]))) | (show Hold ..; first | refine Qh rfl ?_ | refine q6 rfl mixed (by kernel_rfl) ?_ | (refine z7 rfl ⟨_, rfl, fun hb => ?_, fun hb => ?_⟩ <;> (have hc := hb; try simp only [go_sem] at hc)) | refine z8 rfl ?_) | (refine Qb ?_ ?_; focus kernel_rfl) | (show q7 ..; first | ((first | refine q8 (s1) ?_ ?_ | refine q8 (s2) ?_ ?_ | refine q8 (s3) ?_ ?_); (focus (simp only [go_sem, *]; done)); simp only [go_sem, *])) | ((with_reducible refine And.intro ?_ ?_); focus omega) | (refine z6 hK ?_; clear hK; simp only [go_sem, *]) | (simp only [z5, z4, go_sem, *]))
     all_goals first | contradiction | omega | skip
     (refine ⟨[_], [], [], ⟨rfl, trivial⟩, ?_⟩; simp only [go_sem, *])
  ·have r' := I5 r
   rw [if_pos (.inr r)] at hR
   clear q r
   generalize zLS (z9 p c.street) c.src = ix at *
   generalize zLS (z9 p c.street) c.dst = iy at *
   subst hR
   refine y3 func133 rfl (fun E hE => ?_); simp only [go_sem, ntmps133]
   repeat' (first | (show z3 ..; first | (refine Qr rfl ?_; try intro _ hK; try simp only [go_sem, *]) | (refine Qi rfl rfl rfl rfl (fun hb _ hK => ?_) (fun hb => ?_) <;> (have hc := hb; try simp only [go_sem] at hc; simp only [go_sem, *]))) | (show Hold ..; first | refine Qh rfl ?_ | refine q6 rfl mixed (by kernel_rfl) ?_ | (refine z7 rfl ⟨_, rfl, fun hb => ?_, fun hb => ?_⟩ <;> (have hc := hb; try simp only [go_sem] at hc)) | refine z8 rfl ?_) | (refine Qb ?_ ?_; focus kernel_rfl) | (show q7 ..; first | ((first | refine q8 (s1) ?_ ?_ | refine q8 (s2) ?_ ?_); (focus (simp only [go_sem, *]; done)); simp only [go_sem, *])) | ((with_reducible refine And.intro ?_ ?_); focus omega) | (refine z6 hK ?_; clear hK; simp only [go_sem, *]) | (simp only [z5, z4, go_sem, *]))
   all_goals first | contradiction | omega | skip
   (refine ⟨[_], [], [], ⟨rfl, trivial⟩, ?_⟩; simp only [go_sem, *])
 ·have q' := I5 q
  rw [if_pos (.inl q)] at hR
  clear q
  generalize zLS (z9 p c.street) c.src = ix at *
  subst hR
  refine y3 func133 rfl (fun E hE => ?_); simp only [go_sem, ntmps133]
  repeat' (first | (show z3 ..; first | (refine Qr rfl ?_; try intro _ hK; try simp only [go_sem, *]) | (refine Qi rfl rfl rfl rfl (fun hb _ hK => ?_) (fun hb => ?_) <;> (have hc := hb; try simp only [go_sem] at hc; simp only [go_sem, *]))) | (show Hold ..; first | refine Qh rfl ?_ | refine q6 rfl mixed (by kernel_rfl) ?_ | (refine z7 rfl ⟨_, rfl, fun hb => ?_, fun hb => ?_⟩ <;> (have hc := hb; try simp only [go_sem] at hc)) | refine z8 rfl ?_) | (refine Qb ?_ ?_; focus kernel_rfl) | (show q7 ..; first | (refine q8 (s1) ?_ ?_; (focus (simp only [go_sem, *]; done)); simp only [go_sem, *])) | ((with_reducible refine And.intro ?_ ?_); focus omega) | (refine z6 hK ?_; clear hK; simp only [go_sem, *]) | (simp only [z5, z4, go_sem, *]))
  all_goals first | contradiction | omega | skip
  (refine ⟨[_], [], [], ⟨rfl, trivial⟩, ?_⟩; simp only [go_sem, *])
theorem D6 (p : zLI) (c : Change) (hs : 0 ≤ c.street ∧ c.street < p.length) (k : c.kind < 4) : zLJ prog 133 [y5 p, c.enc] [] (iV 0) [] := by
 have hs' : c.street.toNat < p.length := by omega
 obtain ⟨hs0, hs1⟩ := hs
 have k7 : (c.kind == 7) = false := by rw [beq_eq_false_iff_ne]; omega
 have k4 : (c.kind == 4) = false := by rw [beq_eq_false_iff_ne]; omega
 have k5 : (c.kind == 5) = false := by rw [beq_eq_false_iff_ne]; omega
 have k6 : (c.kind == 6) = false := by rw [beq_eq_false_iff_ne]; omega
 clear k
 refine y3 func133 rfl (fun E hE => ?_); simp only [go_sem, ntmps133]
 repeat' (first | (show z3 ..; first | (refine Qr rfl ?_; try intro _ hK; try simp only [go_sem, *]) | (refine Qi rfl rfl rfl rfl (fun hb _ hK => ?_) (fun hb => ?_) <;> (have hc := hb; try simp only [go_sem] at hc; simp only [go_sem, *]))) | (show Hold ..; first | refine Qh rfl ?_ | refine q6 rfl mixed (by kernel_rfl) ?_ | (refine z7 rfl ⟨_, rfl, fun hb => ?_, fun hb => ?_⟩ <;> (have hc := hb; try simp only [go_sem] at hc)) | refine z8 rfl ?_) | (refine Qb ?_ ?_; focus kernel_rfl) | ((with_reducible refine And.intro ?_ ?_); focus omega) | (refine z6 hK ?_; clear hK; simp only [go_sem, *]) | (simp only [z5, z4, go_sem, *]))
 all_goals first | contradiction | omega | skip
 (refine ⟨[_], [], [], ⟨rfl, trivial⟩, ?_⟩; simp only [go_sem, *])
theorem zHb (p : zLI) (c : Change) (v : Valid p) (hk : 1 ≤ c.kind ∧ c.kind ≤ 7) (hs : 0 ≤ c.street ∧ c.street < p.length) (ho : c.kind = 4 ∨ c.kind = 7 → 0 ≤ c.other ∧ c.other < p.length) : zLJ prog 133 [y5 p, c.enc] [] (iV (y9 p c)) [] := by
 rcases V8 hk with k | k | k | k | k | k | k
 ·rw [show y9 p c = 0 by simp [y9, k]]; exact D6 p c hs (by omega)
 ·rw [show y9 p c = 0 by simp [y9, k]]; exact D6 p c hs (by omega)
 ·rw [show y9 p c = 0 by simp [y9, k]]; exact D6 p c hs (by omega)
 ·exact zD2 p c v hs (ho (.inl k)) k _ rfl
 ·exact zD3 p c v hs k _ rfl
 ·exact zD4 p c v hs k _ rfl
 ·exact zD5 p c v hs (ho (.inr k)) k _ rfl
theorem zKz (p : zLI) (c : Change) (v : Valid p) : zLJ prog 98 [y5 p, c.enc] [] (iV (can p c)) [] := by
 have hp3 := v.len
 obtain ⟨x, hx, s1⟩ := zHQ p c (by omega)
 rw [zDQ]
 by_cases e : s5 p c = 0
 ·rw [if_pos e]
  rw [e] at s1
  have hx2 := hx e
  clear hx
  rw [← hx2]
  by_cases q : c = x
  ·rw [if_pos q]
   have q' : decide (c = x) = true := by simpa using q
   have hb : zLL c.kind 1 7 = true ∧ zLL c.street 0 ((p.length : Int) - 1) = true ∧ (c.kind = 4 ∨ c.kind = 7 → zLL c.other 0 ((p.length : Int) - 1) = true) := by
    unfold s5 at e
    split at e
    ·omega
    ·rename_i h1
     split at e
     ·omega
     ·rename_i h2
      split at e
      ·omega
      ·rename_i h3
       refine ⟨by simpa using h1, by simpa using h2, fun h => ?_⟩
       cases hh : zLL c.other 0 ((p.length : Int) - 1) with
       | true => rfl
       | false => exact absurd ⟨h, hh⟩ h3
   have b1 := betw_iff.1 hb.1
   have b2 := betw_iff.1 hb.2.1
   have s2 := zHb p c v b1 (by omega) (fun h => by have := betw_iff.1 (hb.2.2 h); omega)
   clear q hb b1 b2 e hx2
   refine y3 func98 rfl (fun E hE => ?_); simp only [go_sem, ntmps98]
   repeat' (first | (show z3 ..; first | (refine Qr rfl ?_; try intro _ hK; try simp only [go_sem, *])) | (show Hold ..; first | refine Qh rfl ?_ | (refine z7 rfl ⟨_, rfl, fun hb => ?_, fun hb => ?_⟩ <;> (have hc := hb; try simp only [go_sem] at hc)) | refine z8 rfl ?_) | (show q7 ..; first | ((first | refine q8 (s1) ?_ ?_ | refine q8 (s2) ?_ ?_); (focus (simp only [go_sem, *]; done)); simp only [go_sem, *])) | ((with_reducible refine And.intro ?_ ?_); focus omega) | (refine z6 hK ?_; clear hK; simp only [go_sem, *]) | (simp only [z5, z4, go_sem, *]))
   all_goals try contradiction
   (refine ⟨[_], [], [], ⟨rfl, trivial⟩, ?_⟩; simp only [go_sem, *])
  ·rw [if_neg q]
   have q' : decide (c = x) = false := by simpa using q
   clear q e hx2
   refine y3 func98 rfl (fun E hE => ?_); simp only [go_sem, ntmps98]
   repeat' (first | (show z3 ..; first | (refine Qr rfl ?_; try intro _ hK; try simp only [go_sem, *])) | (show Hold ..; first | refine Qh rfl ?_ | (refine z7 rfl ⟨_, rfl, fun hb => ?_, fun hb => ?_⟩ <;> (have hc := hb; try simp only [go_sem] at hc)) | refine z8 rfl ?_) | (show q7 ..; first | (refine q8 (s1) ?_ ?_; (focus (simp only [go_sem, *]; done)); simp only [go_sem, *])) | ((with_reducible refine And.intro ?_ ?_); focus omega) | (refine z6 hK ?_; clear hK; simp only [go_sem, *]) | (simp only [z5, z4, go_sem, *]))
   all_goals try contradiction
   (refine ⟨[_], [], [], ⟨rfl, trivial⟩, ?_⟩; simp only [go_sem, *])
 ·rw [if_neg e]
  have e' : (s5 p c == 0) = false := by rw [beq_eq_false_iff_ne]; exact e
  clear hx
  generalize s5 p c = er at *
  refine y3 func98 rfl (fun E hE => ?_); simp only [go_sem, ntmps98]
  repeat' (first | (show z3 ..; first | (refine Qr rfl ?_; try intro _ hK; try simp only [go_sem, *])) | (show Hold ..; first | refine Qh rfl ?_ | (refine z7 rfl ⟨_, rfl, fun hb => ?_, fun hb => ?_⟩ <;> (have hc := hb; try simp only [go_sem] at hc)) | refine z8 rfl ?_) | (show q7 ..; first | (refine q8 (s1) ?_ ?_; (focus (simp only [go_sem, *]; done)); simp only [go_sem, *])) | ((with_reducible refine And.intro ?_ ?_); focus omega) | (refine z6 hK ?_; clear hK; simp only [go_sem, *]) | (simp only [z5, z4, go_sem, *]))
  all_goals try contradiction
  (refine ⟨[_], [], [], ⟨rfl, trivial⟩, ?_⟩; simp only [go_sem, *])
end Go.Abs

namespace Go.Abs
open Go Go.Proofs Tryz
attribute [local irreducible] z3 Hold q7
theorem T0 {l : List Plate} (h : Sound l) {x : Plate} (hx : x ∈ l) : l.filter (Y3 (decide (x.number.tmod 2 = 1))) = l.filter (fun y => zLM y == zLM x) := by
 refine List.filter_congr (fun y hy => ?_)
 have := (u0 _).1 (h.ok _ hx)
 have := (u0 _).1 (h.ok _ hy)
 have e1 : x.number.tmod 2 = x.number % 2 := Int.tmod_eq_emod_of_nonneg (by omega)
 have e2 : y.number.tmod 2 = y.number % 2 := Int.tmod_eq_emod_of_nonneg (by omega)
 unfold Y3 zLM
 rw [e1, e2]
 rfl
theorem zHv (p : zLI) (c : Change) (x : Plate) (v : Valid p) (hs : 0 ≤ c.street ∧ c.street < p.length) (hx : x ∈ z9 p c.street) (k : c.kind = 1) : zLJ prog 141 [y5 p, c.enc, x.enc] [] (r8 (toP p c x)) [] := by
 generalize hRR : toP p c x = R
 unfold toP at hRR
 rw [if_pos k] at hRR
 have k1 : (c.kind == 1) = true := by rw [beq_iff_eq]; exact k
 clear k
 have hl := (v.row c.street).len
 have hxk := (u0 _).1 ((v.row c.street).ok _ hx)
 have hs' : c.street.toNat < p.length := by omega
 obtain ⟨hs0, hs1⟩ := hs
 have ho := T0 (v.row c.street) hx
 have sp := U4 (z9 p c.street) (decide (x.number.tmod 2 = 1)) (by omega)
 rw [ho] at sp
 have hxo := j4 hx
 have hol : ((z9 p c.street).filter (fun y => zLM y == zLM x)).length ≤ 8 := Nat.le_trans (List.length_filter_le _ _) hl
 have e1 : x.number.tmod 2 = x.number % 2 := Int.tmod_eq_emod_of_nonneg (by omega)
 clear ho
 generalize (z9 p c.street).filter (fun y => zLM y == zLM x) = o at *
 have si := k9 o x (by omega)
 rw [p5 hxo] at si
 have hk := p6 hxo
 generalize o.idxOf x = kk at *
 have w1 : IntKind.i64.wrap ((o.length : Int) - 1) = ((o.length - 1 : Nat) : Int) := by rw [wrap_i64 (by omega) (by omega)]; omega
 have hj : o.length - 1 - kk < o.length := by omega
 have w2 : IntKind.i64.wrap (((o.length - 1 : Nat) : Int) - (kk : Int)) = ((o.length - 1 - kk : Nat) : Int) := by rw [wrap_i64 (by omega) (by omega)]; omega
 generalize o.length - 1 - kk = j at *
 subst hRR
 rw [e1] at sp
 refine y3 func141 rfl (fun E hE => ?_); simp only [go_sem, ntmps141]
 repeat' (first | (show z3 ..; first | (refine Qr rfl ?_; try intro _ hK; try simp only [go_sem, *]) | (refine Qi rfl rfl rfl rfl (fun hb _ hK => ?_) (fun hb => ?_) <;> (have hc := hb; try simp only [go_sem] at hc; simp only [go_sem, *]))) | (show Hold ..; first | refine Qh rfl ?_ | refine q6 rfl mixed (by kernel_rfl) ?_ | (refine z7 rfl ⟨_, rfl, fun hb => ?_, fun hb => ?_⟩ <;> (have hc := hb; try simp only [go_sem] at hc)) | refine z8 rfl ?_) | (refine Qb ?_ ?_; focus kernel_rfl) | (show q7 ..; first | (refine v5 (sp) ?_ ?_ ?_ ?_; (focus (simp only [go_sem, *]; done)); (focus (first | (simp; done) | (simp [go_sem]; done))); (focus (first | (simp; done) | (simp [go_sem]; done))); simp only [go_sem, *])) | ((with_reducible refine And.intro ?_ ?_); focus omega) | (refine z6 hK ?_; clear hK; simp only [go_sem, *]) | (simp only [z5, z4, go_sem, *]))
 all_goals first | contradiction | omega | skip
 (refine o7 [3] (si) (by simp only [go_sem, *]) (.raw _) ?_; simp only [go_sem, *])
 repeat' (first | (show z3 ..; first | (refine Qr rfl ?_; try intro _ hK; try simp only [go_sem, *]) | (refine Qi rfl rfl rfl rfl (fun hb _ hK => ?_) (fun hb => ?_) <;> (have hc := hb; try simp only [go_sem] at hc; simp only [go_sem, *]))) | (show Hold ..; first | refine Qh rfl ?_ | refine q6 rfl mixed (by kernel_rfl) ?_ | (refine z7 rfl ⟨_, rfl, fun hb => ?_, fun hb => ?_⟩ <;> (have hc := hb; try simp only [go_sem] at hc)) | refine z8 rfl ?_) | (refine Qb ?_ ?_; focus kernel_rfl) | ((with_reducible refine And.intro ?_ ?_); focus omega) | (refine z6 hK ?_; clear hK; simp only [go_sem, *]) | (simp only [z5, z4, go_sem, *]))
 all_goals first | contradiction | omega | skip
 refine ⟨[.own 5 3 0 1], [], [5], ⟨by simp only [x9, go_sem], trivial⟩, ?_⟩
 simp only [go_sem, *]
theorem zHw (p : zLI) (c : Change) (x : Plate) (v : Valid p) (hs : 0 ≤ c.street ∧ c.street < p.length) (hx : x ∈ z9 p c.street) (k : c.kind = 2) : zLJ prog 141 [y5 p, c.enc, x.enc] [] (r8 (toP p c x)) [] := by
 generalize hRR : toP p c x = R
 unfold toP at hRR
 rw [if_neg (by omega : ¬ c.kind = 1)] at hRR
 rw [if_pos k] at hRR
 have k2 : (c.kind == 2) = true := by rw [beq_iff_eq]; exact k
 have k1 : (c.kind == 1) = false := by rw [beq_eq_false_iff_ne]; omega
 clear k
 have hl := (v.row c.street).len
 have hxk := (u0 _).1 ((v.row c.street).ok _ hx)
 have hs' : c.street.toNat < p.length := by omega
 obtain ⟨hs0, hs1⟩ := hs
 have ho := T0 (v.row c.street) hx
 have sp := U4 (z9 p c.street) (decide (x.number.tmod 2 = 1)) (by omega)
 rw [ho] at sp
 have hxo := j4 hx
 have hol : ((z9 p c.street).filter (fun y => zLM y == zLM x)).length ≤ 8 := Nat.le_trans (List.length_filter_le _ _) hl
 have e1 : x.number.tmod 2 = x.number % 2 := Int.tmod_eq_emod_of_nonneg (by omega)
 clear ho
 generalize (z9 p c.street).filter (fun y => zLM y == zLM x) = o at *
 have si := k9 o x (by omega)
 rw [p5 hxo] at si
 have hk := p6 hxo
 generalize o.idxOf x = kk at *
 have w1 : IntKind.i64.wrap (x.number + 1) = x.number + 1 := wrap_i64 (by omega) (by omega)
 have w2 : IntKind.i64.wrap (x.number - 1) = x.number - 1 := wrap_i64 (by omega) (by omega)
 by_cases q : x.number % 2 = 1
 ·rw [if_pos ((a9 x).2 q)] at hRR
  have q' : (x.number % 2 == 1) = true := by rw [beq_iff_eq]; exact q
  rw [e1, decide_eq_true q] at sp
  clear q
  subst hRR
  refine y3 func141 rfl (fun E hE => ?_); simp only [go_sem, ntmps141]
  repeat' (first | (show z3 ..; first | (refine Qr rfl ?_; try intro _ hK; try simp only [go_sem, *]) | (refine Qi rfl rfl rfl rfl (fun hb _ hK => ?_) (fun hb => ?_) <;> (have hc := hb; try simp only [go_sem] at hc; simp only [go_sem, *]))) | (show Hold ..; first | refine Qh rfl ?_ | refine q6 rfl mixed (by kernel_rfl) ?_ | (refine z7 rfl ⟨_, rfl, fun hb => ?_, fun hb => ?_⟩ <;> (have hc := hb; try simp only [go_sem] at hc)) | refine z8 rfl ?_) | (refine Qb ?_ ?_; focus kernel_rfl) | (show q7 ..; first | (refine v5 (sp) ?_ ?_ ?_ ?_; (focus (simp only [go_sem, *]; done)); (focus (first | (simp; done) | (simp [go_sem]; done))); (focus (first | (simp; done) | (simp [go_sem]; done))); simp only [go_sem, *])) | ((with_reducible refine And.intro ?_ ?_); focus omega) | (refine z6 hK ?_; clear hK; simp only [go_sem, *]) | (simp only [z5, z4, go_sem, *]))
  all_goals first | contradiction | omega | skip
  (refine o7 [3] (si) (by simp only [go_sem, *]) (.raw _) ?_; simp only [go_sem, *])
  repeat' (first | (show z3 ..; first | (refine Qr rfl ?_; try intro _ hK; try simp only [go_sem, *]) | (refine Qi rfl rfl rfl rfl (fun hb _ hK => ?_) (fun hb => ?_) <;> (have hc := hb; try simp only [go_sem] at hc; simp only [go_sem, *]))) | (show Hold ..; first | refine Qh rfl ?_ | refine q6 rfl mixed (by kernel_rfl) ?_ | (refine z7 rfl ⟨_, rfl, fun hb => ?_, fun hb => ?_⟩ <;> (have hc := hb; try simp only [go_sem] at hc)) | refine z8 rfl ?_) | (refine Qb ?_ ?_; focus kernel_rfl) | ((with_reducible refine And.intro ?_ ?_); focus omega) | (refine z6 hK ?_; clear hK; simp only [go_sem, *]) | (simp only [z5, z4, go_sem, *]))
  all_goals first | contradiction | omega | skip
  refine ⟨[.own 5 3 0 1], [], [5], ⟨by simp only [x9, go_sem], trivial⟩, ?_⟩
  simp only [go_sem, *]
 ·rw [if_neg (fun h => q ((a9 x).1 h))] at hRR
  have q' : (x.number % 2 == 1) = false := by rw [beq_eq_false_iff_ne]; exact q
  rw [e1, decide_eq_false q] at sp
  clear q
  subst hRR
  refine y3 func141 rfl (fun E hE => ?_); simp only [go_sem, ntmps141]
  repeat' (first | (show z3 ..; first | (refine Qr rfl ?_; try intro _ hK; try simp only [go_sem, *]) | (refine Qi rfl rfl rfl rfl (fun hb _ hK => ?_) (fun hb => ?_) <;> (have hc := hb; try simp only [go_sem] at hc; simp only [go_sem, *]))) | (show Hold ..; first | refine Qh rfl ?_ | refine q6 rfl mixed (by kernel_rfl) ?_ | (refine z7 rfl ⟨_, rfl, fun hb => ?_, fun hb => ?_⟩ <;> (have hc := hb; try simp only [go_sem] at hc)) | refine z8 rfl ?_) | (refine Qb ?_ ?_; focus kernel_rfl) | (show q7 ..; first | (refine v5 (sp) ?_ ?_ ?_ ?_; (focus (simp only [go_sem, *]; done)); (focus (first | (simp; done) | (simp [go_sem]; done))); (focus (first | (simp; done) | (simp [go_sem]; done))); simp only [go_sem, *])) | ((with_reducible refine And.intro ?_ ?_); focus omega) | (refine z6 hK ?_; clear hK; simp only [go_sem, *]) | (simp only [z5, z4, go_sem, *]))
  all_goals first | contradiction | omega | skip
  (refine o7 [3] (si) (by simp only [go_sem, *]) (.raw _) ?_; simp only [go_sem, *])
  repeat' (first | (show z3 ..; first | (refine Qr rfl ?_; try intro _ hK; try simp only [go_sem, *]) | (refine Qi rfl rfl rfl rfl (fun hb _ hK => ?_) (fun hb => ?_) <;> (have hc := hb; try simp only [go_sem] at hc; simp only [go_sem, *]))) | (show Hold ..; first | refine Qh rfl ?_ | refine q6 rfl mixed (by kernel_rfl) ?_ | (refine z7 rfl ⟨_, rfl, fun hb => ?_, fun hb => ?_⟩ <;> (have hc := hb; try simp only [go_sem] at hc)) | refine z8 rfl ?_) | (refine Qb ?_ ?_; focus kernel_rfl) | ((with_reducible refine And.intro ?_ ?_); focus omega) | (refine z6 hK ?_; clear hK; simp only [go_sem, *]) | (simp only [z5, z4, go_sem, *]))
  all_goals first | contradiction | omega | skip
  refine ⟨[.own 5 3 0 1], [], [5], ⟨by simp only [x9, go_sem], trivial⟩, ?_⟩
  simp only [go_sem, *]
theorem zHx (p : zLI) (c : Change) (x : Plate) (v : Valid p) (hs : 0 ≤ c.street ∧ c.street < p.length) (hx : x ∈ z9 p c.street) (k : c.kind = 3) : zLJ prog 141 [y5 p, c.enc, x.enc] [] (r8 (toP p c x)) [] := by
 generalize hRR : toP p c x = R
 unfold toP at hRR
 rw [if_neg (by omega : ¬ c.kind = 1)] at hRR
 rw [if_neg (by omega : ¬ c.kind = 2)] at hRR
 rw [if_pos k] at hRR
 have k3 : (c.kind == 3) = true := by rw [beq_iff_eq]; exact k
 have k1 : (c.kind == 1) = false := by rw [beq_eq_false_iff_ne]; omega
 have k2 : (c.kind == 2) = false := by rw [beq_eq_false_iff_ne]; omega
 clear k
 have hl := (v.row c.street).len
 have hxk := (u0 _).1 ((v.row c.street).ok _ hx)
 have hs' : c.street.toNat < p.length := by omega
 obtain ⟨hs0, hs1⟩ := hs
 have ho := T0 (v.row c.street) hx
 have sp := U4 (z9 p c.street) (decide (x.number.tmod 2 = 1)) (by omega)
 rw [ho] at sp
 have hxo := j4 hx
 have hol : ((z9 p c.street).filter (fun y => zLM y == zLM x)).length ≤ 8 := Nat.le_trans (List.length_filter_le _ _) hl
 have e1 : x.number.tmod 2 = x.number % 2 := Int.tmod_eq_emod_of_nonneg (by omega)
 clear ho
 generalize (z9 p c.street).filter (fun y => zLM y == zLM x) = o at *
 have si := k9 o x (by omega)
 rw [p5 hxo] at si
 have hk := p6 hxo
 generalize o.idxOf x = kk at *
 have w1 : IntKind.i64.wrap (2 * (kk : Int)) = 2 * (kk : Int) := wrap_i64 (by omega) (by omega)
 have w2 : IntKind.i64.wrap (2 * (kk : Int) + 2) = 2 * (kk : Int) + 2 := wrap_i64 (by omega) (by omega)
 have w3 : IntKind.i64.wrap (2 * (kk : Int) + 2 - x.number % 2) = 2 * (kk : Int) + 2 - x.number % 2 := wrap_i64 (by omega) (by omega)
 subst hRR
 rw [e1] at sp
 refine y3 func141 rfl (fun E hE => ?_); simp only [go_sem, ntmps141]
 repeat' (first | (show z3 ..; first | (refine Qr rfl ?_; try intro _ hK; try simp only [go_sem, *]) | (refine Qi rfl rfl rfl rfl (fun hb _ hK => ?_) (fun hb => ?_) <;> (have hc := hb; try simp only [go_sem] at hc; simp only [go_sem, *]))) | (show Hold ..; first | refine Qh rfl ?_ | refine q6 rfl mixed (by kernel_rfl) ?_ | (refine z7 rfl ⟨_, rfl, fun hb => ?_, fun hb => ?_⟩ <;> (have hc := hb; try simp only [go_sem] at hc)) | refine z8 rfl ?_) | (refine Qb ?_ ?_; focus kernel_rfl) | (show q7 ..; first | (refine v5 (sp) ?_ ?_ ?_ ?_; (focus (simp only [go_sem, *]; done)); (focus (first | (simp; done) | (simp [go_sem]; done))); (focus (first | (simp; done) | (simp [go_sem]; done))); simp only [go_sem, *])) | ((with_reducible refine And.intro ?_ ?_); focus omega) | (refine z6 hK ?_; clear hK; simp only [go_sem, *]) | (simp only [z5, z4, go_sem, *]))
 all_goals first | contradiction | omega | skip
 (refine o7 [3] (si) (by simp only [go_sem, *]) (.raw _) ?_; simp only [go_sem, *])
 repeat' (first | (show z3 ..; first | (refine Qr rfl ?_; try intro _ hK; try simp only [go_sem, *]) | (refine Qi rfl rfl rfl rfl (fun hb _ hK => ?_) (fun hb => ?_) <;> (have hc := hb; try simp only [go_sem] at hc; simp only [go_sem, *]))) | (show Hold ..; first | refine Qh rfl ?_ | refine q6 rfl mixed (by kernel_rfl) ?_ | (refine z7 rfl ⟨_, rfl, fun hb => ?_, fun hb => ?_⟩ <;> (have hc := hb; try simp only [go_sem] at hc)) | refine z8 rfl ?_) | (refine Qb ?_ ?_; focus kernel_rfl) | ((with_reducible refine And.intro ?_ ?_); focus omega) | (refine z6 hK ?_; clear hK; simp only [go_sem, *]) | (simp only [z5, z4, go_sem, *]))
 all_goals first | contradiction | omega | skip
 refine ⟨[.own 5 3 0 1], [], [5], ⟨by simp only [x9, go_sem], trivial⟩, ?_⟩
 simp only [go_sem, *]
theorem zHy (p : zLI) (c : Change) (x : Plate) (v : Valid p) (hs : 0 ≤ c.street ∧ c.street < p.length) (hq : 0 ≤ c.other ∧ c.other < p.length) (hx : x ∈ z9 p c.street) (k : c.kind = 4) : zLJ prog 141 [y5 p, c.enc, x.enc] [] (r8 (toP p c x)) [] := by
 generalize hRR : toP p c x = R
 unfold toP at hRR
 rw [if_neg (by omega : ¬ c.kind = 1)] at hRR
 rw [if_neg (by omega : ¬ c.kind = 2)] at hRR
 rw [if_neg (by omega : ¬ c.kind = 3)] at hRR
 rw [if_pos k] at hRR
 have k4 : (c.kind == 4) = true := by rw [beq_iff_eq]; exact k
 have k1 : (c.kind == 1) = false := by rw [beq_eq_false_iff_ne]; omega
 have k2 : (c.kind == 2) = false := by rw [beq_eq_false_iff_ne]; omega
 have k3 : (c.kind == 3) = false := by rw [beq_eq_false_iff_ne]; omega
 clear k
 have hl := (v.row c.street).len
 have hxk := (u0 _).1 ((v.row c.street).ok _ hx)
 have hs' : c.street.toNat < p.length := by omega
 obtain ⟨hs0, hs1⟩ := hs
 have ho := T0 (v.row c.street) hx
 have sp := U4 (z9 p c.street) (decide (x.number.tmod 2 = 1)) (by omega)
 rw [ho] at sp
 have hxo := j4 hx
 have hol : ((z9 p c.street).filter (fun y => zLM y == zLM x)).length ≤ 8 := Nat.le_trans (List.length_filter_le _ _) hl
 have e1 : x.number.tmod 2 = x.number % 2 := Int.tmod_eq_emod_of_nonneg (by omega)
 clear ho
 generalize (z9 p c.street).filter (fun y => zLM y == zLM x) = o at *
 have si := k9 o x (by omega)
 rw [p5 hxo] at si
 have hk := p6 hxo
 generalize o.idxOf x = kk at *
 have hob := E1 (v.row c.other)
 have sb := zCO (z9 p c.other) (by have := (v.row c.other).len; omega) (v.row c.other).ok
 have ho' : c.other.toNat < p.length := by omega
 obtain ⟨ho0, ho1⟩ := hq
 generalize base (z9 p c.other) = bb at *
 have w1 : IntKind.i64.wrap (x.number + bb) = x.number + bb := wrap_i64 (by omega) (by omega)
 subst hRR
 rw [e1] at sp
 refine y3 func141 rfl (fun E hE => ?_); simp only [go_sem, ntmps141]
 repeat' (first | (show z3 ..; first | (refine Qr rfl ?_; try intro _ hK; try simp only [go_sem, *]) | (refine Qi rfl rfl rfl rfl (fun hb _ hK => ?_) (fun hb => ?_) <;> (have hc := hb; try simp only [go_sem] at hc; simp only [go_sem, *]))) | (show Hold ..; first | refine Qh rfl ?_ | refine q6 rfl mixed (by kernel_rfl) ?_ | (refine z7 rfl ⟨_, rfl, fun hb => ?_, fun hb => ?_⟩ <;> (have hc := hb; try simp only [go_sem] at hc)) | refine z8 rfl ?_) | (refine Qb ?_ ?_; focus kernel_rfl) | (show q7 ..; first | (refine v5 (sp) ?_ ?_ ?_ ?_; (focus (simp only [go_sem, *]; done)); (focus (first | (simp; done) | (simp [go_sem]; done))); (focus (first | (simp; done) | (simp [go_sem]; done))); simp only [go_sem, *])) | ((with_reducible refine And.intro ?_ ?_); focus omega) | (refine z6 hK ?_; clear hK; simp only [go_sem, *]) | (simp only [z5, z4, go_sem, *]))
 all_goals first | contradiction | omega | skip
 (refine o7 [3] (si) (by simp only [go_sem, *]) (.raw _) ?_; simp only [go_sem, *])
 repeat' (first | (show z3 ..; first | (refine Qr rfl ?_; try intro _ hK; try simp only [go_sem, *]) | (refine Qi rfl rfl rfl rfl (fun hb _ hK => ?_) (fun hb => ?_) <;> (have hc := hb; try simp only [go_sem] at hc; simp only [go_sem, *]))) | (show Hold ..; first | refine Qh rfl ?_ | refine q6 rfl mixed (by kernel_rfl) ?_ | (refine z7 rfl ⟨_, rfl, fun hb => ?_, fun hb => ?_⟩ <;> (have hc := hb; try simp only [go_sem] at hc)) | refine z8 rfl ?_) | (refine Qb ?_ ?_; focus kernel_rfl) | (show q7 ..; first | (refine q8 (sb) ?_ ?_; (focus (simp only [go_sem, *]; done)); simp only [go_sem, *])) | ((with_reducible refine And.intro ?_ ?_); focus omega) | (refine z6 hK ?_; clear hK; simp only [go_sem, *]) | (simp only [z5, z4, go_sem, *]))
 all_goals first | contradiction | omega | skip
 refine ⟨[.own 5 3 0 1], [], [5], ⟨by simp only [x9, go_sem], trivial⟩, ?_⟩
 simp only [go_sem, *]
theorem zHz (p : zLI) (c : Change) (x : Plate) (v : Valid p) (hs : 0 ≤ c.street ∧ c.street < p.length) (hx : x ∈ z9 p c.street) (k : c.kind = 5) : zLJ prog 141 [y5 p, c.enc, x.enc] [] (r8 (toP p c x)) [] := by
 generalize hRR : toP p c x = R
 unfold toP at hRR
 rw [if_neg (by omega : ¬ c.kind = 1)] at hRR
 rw [if_neg (by omega : ¬ c.kind = 2)] at hRR
 rw [if_neg (by omega : ¬ c.kind = 3)] at hRR
 rw [if_neg (by omega : ¬ c.kind = 4)] at hRR
 rw [if_pos k] at hRR
 have k5 : (c.kind == 5) = true := by rw [beq_iff_eq]; exact k
 have k1 : (c.kind == 1) = false := by rw [beq_eq_false_iff_ne]; omega
 have k2 : (c.kind == 2) = false := by rw [beq_eq_false_iff_ne]; omega
 have k3 : (c.kind == 3) = false := by rw [beq_eq_false_iff_ne]; omega
 have k4 : (c.kind == 4) = false := by rw [beq_eq_false_iff_ne]; omega
 clear k
 have hl := (v.row c.street).len
 have hxk := (u0 _).1 ((v.row c.street).ok _ hx)
 have hs' : c.street.toNat < p.length := by omega
 obtain ⟨hs0, hs1⟩ := hs
 have ho := T0 (v.row c.street) hx
 have sp := U4 (z9 p c.street) (decide (x.number.tmod 2 = 1)) (by omega)
 rw [ho] at sp
 have hxo := j4 hx
 have hol : ((z9 p c.street).filter (fun y => zLM y == zLM x)).length ≤ 8 := Nat.le_trans (List.length_filter_le _ _) hl
 have e1 : x.number.tmod 2 = x.number % 2 := Int.tmod_eq_emod_of_nonneg (by omega)
 clear ho
 generalize (z9 p c.street).filter (fun y => zLM y == zLM x) = o at *
 have si := k9 o x (by omega)
 rw [p5 hxo] at si
 have hk := p6 hxo
 generalize o.idxOf x = kk at *
 have sl := zCW (z9 p c.street) x.number (by omega)
 generalize letter (z9 p c.street) x.number = lt at *
 rw [e1] at sp
 by_cases q : x = c.src
 ·rw [if_pos q] at hRR
  have q' : decide (x = c.src) = true := decide_eq_true q
  clear q
  subst hRR
  refine y3 func141 rfl (fun E hE => ?_); simp only [go_sem, ntmps141]
  repeat' (first | (show z3 ..; first | (refine Qr rfl ?_; try intro _ hK; try simp only [go_sem, *]) | (refine Qi rfl rfl rfl rfl (fun hb _ hK => ?_) (fun hb => ?_) <;> (have hc := hb; try simp only [go_sem] at hc; simp only [go_sem, *]))) | (show Hold ..; first | refine Qh rfl ?_ | refine q6 rfl mixed (by kernel_rfl) ?_ | (refine z7 rfl ⟨_, rfl, fun hb => ?_, fun hb => ?_⟩ <;> (have hc := hb; try simp only [go_sem] at hc)) | refine z8 rfl ?_) | (refine Qb ?_ ?_; focus kernel_rfl) | (show q7 ..; first | (refine v5 (sp) ?_ ?_ ?_ ?_; (focus (simp only [go_sem, *]; done)); (focus (first | (simp; done) | (simp [go_sem]; done))); (focus (first | (simp; done) | (simp [go_sem]; done))); simp only [go_sem, *])) | ((with_reducible refine And.intro ?_ ?_); focus omega) | (refine z6 hK ?_; clear hK; simp only [go_sem, *]) | (simp only [z5, z4, go_sem, *]))
  all_goals first | contradiction | omega | skip
  (refine o7 [3] (si) (by simp only [go_sem, *]) (.raw _) ?_; simp only [go_sem, *])
  repeat' (first | (show z3 ..; first | (refine Qr rfl ?_; try intro _ hK; try simp only [go_sem, *]) | (refine Qi rfl rfl rfl rfl (fun hb _ hK => ?_) (fun hb => ?_) <;> (have hc := hb; try simp only [go_sem] at hc; simp only [go_sem, *]))) | (show Hold ..; first | refine Qh rfl ?_ | refine q6 rfl mixed (by kernel_rfl) ?_ | (refine z7 rfl ⟨_, rfl, fun hb => ?_, fun hb => ?_⟩ <;> (have hc := hb; try simp only [go_sem] at hc)) | refine z8 rfl ?_) | (refine Qb ?_ ?_; focus kernel_rfl) | (show q7 ..; first | (refine q8 (sl) ?_ ?_; (focus (simp only [go_sem, *]; done)); simp only [go_sem, *])) | ((with_reducible refine And.intro ?_ ?_); focus omega) | (refine z6 hK ?_; clear hK; simp only [go_sem, *]) | (simp only [z5, z4, go_sem, *]))
  all_goals first | contradiction | omega | skip
  refine ⟨[.own 5 3 0 2], [], [5], ⟨by simp only [x9, go_sem], trivial⟩, ?_⟩
  simp only [go_sem, *]
 ·rw [if_neg q] at hRR
  have q' : decide (x = c.src) = false := decide_eq_false q
  clear q
  subst hRR
  refine y3 func141 rfl (fun E hE => ?_); simp only [go_sem, ntmps141]
  repeat' (first | (show z3 ..; first | (refine Qr rfl ?_; try intro _ hK; try simp only [go_sem, *]) | (refine Qi rfl rfl rfl rfl (fun hb _ hK => ?_) (fun hb => ?_) <;> (have hc := hb; try simp only [go_sem] at hc; simp only [go_sem, *]))) | (show Hold ..; first | refine Qh rfl ?_ | refine q6 rfl mixed (by kernel_rfl) ?_ | (refine z7 rfl ⟨_, rfl, fun hb => ?_, fun hb => ?_⟩ <;> (have hc := hb; try simp only [go_sem] at hc)) | refine z8 rfl ?_) | (refine Qb ?_ ?_; focus kernel_rfl) | (show q7 ..; first | (refine v5 (sp) ?_ ?_ ?_ ?_; (focus (simp only [go_sem, *]; done)); (focus (first | (simp; done) | (simp [go_sem]; done))); (focus (first | (simp; done) | (simp [go_sem]; done))); simp only [go_sem, *])) | ((with_reducible refine And.intro ?_ ?_); focus omega) | (refine z6 hK ?_; clear hK; simp only [go_sem, *]) | (simp only [z5, z4, go_sem, *]))
  all_goals first | contradiction | omega | skip
  (refine o7 [3] (si) (by simp only [go_sem, *]) (.raw _) ?_; simp only [go_sem, *])
  repeat' (first | (show z3 ..; first | (refine Qr rfl ?_; try intro _ hK; try simp only [go_sem, *]) | (refine Qi rfl rfl rfl rfl (fun hb _ hK => ?_) (fun hb => ?_) <;> (have hc := hb; try simp only [go_sem] at hc; simp only [go_sem, *]))) | (show Hold ..; first | refine Qh rfl ?_ | refine q6 rfl mixed (by kernel_rfl) ?_ | (refine z7 rfl ⟨_, rfl, fun hb => ?_, fun hb => ?_⟩ <;> (have hc := hb; try simp only [go_sem] at hc)) | refine z8 rfl ?_) | (refine Qb ?_ ?_; focus kernel_rfl) | ((with_reducible refine And.intro ?_ ?_); focus omega) | (refine z6 hK ?_; clear hK; simp only [go_sem, *]) | (simp only [z5, z4, go_sem, *]))
  all_goals first | contradiction | omega | skip
  refine ⟨[.own 5 3 0 1], [], [5], ⟨by simp only [x9, go_sem], trivial⟩, ?_⟩
  simp only [go_sem, *]
theorem zH0 (p : zLI) (c : Change) (x : Plate) (v : Valid p) (hs : 0 ≤ c.street ∧ c.street < p.length) (hx : x ∈ z9 p c.street) (k : c.kind = 6) : zLJ prog 141 [y5 p, c.enc, x.enc] [] (r8 (toP p c x)) [] := by
 generalize hRR : toP p c x = R
 unfold toP at hRR
 rw [if_neg (by omega : ¬ c.kind = 1)] at hRR
 rw [if_neg (by omega : ¬ c.kind = 2)] at hRR
 rw [if_neg (by omega : ¬ c.kind = 3)] at hRR
 rw [if_neg (by omega : ¬ c.kind = 4)] at hRR
 rw [if_neg (by omega : ¬ c.kind = 5)] at hRR
 rw [if_pos k] at hRR
 have k6 : (c.kind == 6) = true := by rw [beq_iff_eq]; exact k
 have k1 : (c.kind == 1) = false := by rw [beq_eq_false_iff_ne]; omega
 have k2 : (c.kind == 2) = false := by rw [beq_eq_false_iff_ne]; omega
 have k3 : (c.kind == 3) = false := by rw [beq_eq_false_iff_ne]; omega
 have k4 : (c.kind == 4) = false := by rw [beq_eq_false_iff_ne]; omega
 have k5 : (c.kind == 5) = false := by rw [beq_eq_false_iff_ne]; omega
 clear k
 have hl := (v.row c.street).len
 have hxk := (u0 _).1 ((v.row c.street).ok _ hx)
 have hs' : c.street.toNat < p.length := by omega
 obtain ⟨hs0, hs1⟩ := hs
 have ho := T0 (v.row c.street) hx
 have sp := U4 (z9 p c.street) (decide (x.number.tmod 2 = 1)) (by omega)
 rw [ho] at sp
 have hxo := j4 hx
 have hol : ((z9 p c.street).filter (fun y => zLM y == zLM x)).length ≤ 8 := Nat.le_trans (List.length_filter_le _ _) hl
 have e1 : x.number.tmod 2 = x.number % 2 := Int.tmod_eq_emod_of_nonneg (by omega)
 clear ho
 generalize (z9 p c.street).filter (fun y => zLM y == zLM x) = o at *
 have si := k9 o x (by omega)
 rw [p5 hxo] at si
 have hk := p6 hxo
 generalize o.idxOf x = kk at *
 rw [e1] at sp
 by_cases q : x = c.src
 ·rw [if_pos q] at hRR
  have q' : decide (x = c.src) = true := decide_eq_true q
  clear q
  subst hRR
  refine y3 func141 rfl (fun E hE => ?_); simp only [go_sem, ntmps141]
  repeat' (first | (show z3 ..; first | (refine Qr rfl ?_; try intro _ hK; try simp only [go_sem, *]) | (refine Qi rfl rfl rfl rfl (fun hb _ hK => ?_) (fun hb => ?_) <;> (have hc := hb; try simp only [go_sem] at hc; simp only [go_sem, *]))) | (show Hold ..; first | refine Qh rfl ?_ | refine q6 rfl mixed (by kernel_rfl) ?_ | (refine z7 rfl ⟨_, rfl, fun hb => ?_, fun hb => ?_⟩ <;> (have hc := hb; try simp only [go_sem] at hc)) | refine z8 rfl ?_) | (refine Qb ?_ ?_; focus kernel_rfl) | (show q7 ..; first | (refine v5 (sp) ?_ ?_ ?_ ?_; (focus (simp only [go_sem, *]; done)); (focus (first | (simp; done) | (simp [go_sem]; done))); (focus (first | (simp; done) | (simp [go_sem]; done))); simp only [go_sem, *])) | ((with_reducible refine And.intro ?_ ?_); focus omega) | (refine z6 hK ?_; clear hK; simp only [go_sem, *]) | (simp only [z5, z4, go_sem, *]))
  all_goals first | contradiction | omega | skip
  (refine o7 [3] (si) (by simp only [go_sem, *]) (.raw _) ?_; simp only [go_sem, *])
  repeat' (first | (show z3 ..; first | (refine Qr rfl ?_; try intro _ hK; try simp only [go_sem, *]) | (refine Qi rfl rfl rfl rfl (fun hb _ hK => ?_) (fun hb => ?_) <;> (have hc := hb; try simp only [go_sem] at hc; simp only [go_sem, *]))) | (show Hold ..; first | refine Qh rfl ?_ | refine q6 rfl mixed (by kernel_rfl) ?_ | (refine z7 rfl ⟨_, rfl, fun hb => ?_, fun hb => ?_⟩ <;> (have hc := hb; try simp only [go_sem] at hc)) | refine z8 rfl ?_) | (refine Qb ?_ ?_; focus kernel_rfl) | ((with_reducible refine And.intro ?_ ?_); focus omega) | (refine z6 hK ?_; clear hK; simp only [go_sem, *]) | (simp only [z5, z4, go_sem, *]))
  all_goals first | contradiction | omega | skip
  refine ⟨[zLb], [], [], ⟨by simp only [x9, go_sem], trivial⟩, ?_⟩
  simp only [go_sem, *]
 ·rw [if_neg q] at hRR
  have q' : decide (x = c.src) = false := decide_eq_false q
  clear q
  subst hRR
  refine y3 func141 rfl (fun E hE => ?_); simp only [go_sem, ntmps141]
  repeat' (first | (show z3 ..; first | (refine Qr rfl ?_; try intro _ hK; try simp only [go_sem, *]) | (refine Qi rfl rfl rfl rfl (fun hb _ hK => ?_) (fun hb => ?_) <;> (have hc := hb; try simp only [go_sem] at hc; simp only [go_sem, *]))) | (show Hold ..; first | refine Qh rfl ?_ | refine q6 rfl mixed (by kernel_rfl) ?_ | (refine z7 rfl ⟨_, rfl, fun hb => ?_, fun hb => ?_⟩ <;> (have hc := hb; try simp only [go_sem] at hc)) | refine z8 rfl ?_) | (refine Qb ?_ ?_; focus kernel_rfl) | (show q7 ..; first | (refine v5 (sp) ?_ ?_ ?_ ?_; (focus (simp only [go_sem, *]; done)); (focus (first | (simp; done) | (simp [go_sem]; done))); (focus (first | (simp; done) | (simp [go_sem]; done))); simp only [go_sem, *])) | ((with_reducible refine And.intro ?_ ?_); focus omega) | (refine z6 hK ?_; clear hK; simp only [go_sem, *]) | (simp only [z5, z4, go_sem, *]))
  all_goals first | contradiction | omega | skip
  (refine o7 [3] (si) (by simp only [go_sem, *]) (.raw _) ?_; simp only [go_sem, *])
  repeat' (first | (show z3 ..; first | (refine Qr rfl ?_; try intro _ hK; try simp only [go_sem, *]) | (refine Qi rfl rfl rfl rfl (fun hb _ hK => ?_) (fun hb => ?_) <;> (have hc := hb; try simp only [go_sem] at hc; simp only [go_sem, *]))) | (show Hold ..; first | refine Qh rfl ?_ | refine q6 rfl mixed (by kernel_rfl) ?_ | (refine z7 rfl ⟨_, rfl, fun hb => ?_, fun hb => ?_⟩ <;> (have hc := hb; try simp only [go_sem] at hc)) | refine z8 rfl ?_) | (refine Qb ?_ ?_; focus kernel_rfl) | ((with_reducible refine And.intro ?_ ?_); focus omega) | (refine z6 hK ?_; clear hK; simp only [go_sem, *]) | (simp only [z5, z4, go_sem, *]))
  all_goals first | contradiction | omega | skip
  refine ⟨[.own 5 3 0 1], [], [5], ⟨by simp only [x9, go_sem], trivial⟩, ?_⟩
  simp only [go_sem, *]
theorem zH1 (p : zLI) (c : Change) (x : Plate) (v : Valid p) (hs : 0 ≤ c.street ∧ c.street < p.length) (hx : x ∈ z9 p c.street) (k : c.kind = 7) : zLJ prog 141 [y5 p, c.enc, x.enc] [] (r8 (toP p c x)) [] := by
 generalize hRR : toP p c x = R
 unfold toP at hRR
 rw [if_neg (by omega : ¬ c.kind = 1)] at hRR
 rw [if_neg (by omega : ¬ c.kind = 2)] at hRR
 rw [if_neg (by omega : ¬ c.kind = 3)] at hRR
 rw [if_neg (by omega : ¬ c.kind = 4)] at hRR
 rw [if_neg (by omega : ¬ c.kind = 5)] at hRR
 rw [if_neg (by omega : ¬ c.kind = 6)] at hRR
 rw [if_pos k] at hRR
 have k7 : (c.kind == 7) = true := by rw [beq_iff_eq]; exact k
 have k1 : (c.kind == 1) = false := by rw [beq_eq_false_iff_ne]; omega
 have k2 : (c.kind == 2) = false := by rw [beq_eq_false_iff_ne]; omega
 have k3 : (c.kind == 3) = false := by rw [beq_eq_false_iff_ne]; omega
 have k4 : (c.kind == 4) = false := by rw [beq_eq_false_iff_ne]; omega
 have k5 : (c.kind == 5) = false := by rw [beq_eq_false_iff_ne]; omega
 have k6 : (c.kind == 6) = false := by rw [beq_eq_false_iff_ne]; omega
 clear k
 have hl := (v.row c.street).len
 have hxk := (u0 _).1 ((v.row c.street).ok _ hx)
 have hs' : c.street.toNat < p.length := by omega
 obtain ⟨hs0, hs1⟩ := hs
 have ho := T0 (v.row c.street) hx
 have sp := U4 (z9 p c.street) (decide (x.number.tmod 2 = 1)) (by omega)
 rw [ho] at sp
 have hxo := j4 hx
 have hol : ((z9 p c.street).filter (fun y => zLM y == zLM x)).length ≤ 8 := Nat.le_trans (List.length_filter_le _ _) hl
 have e1 : x.number.tmod 2 = x.number % 2 := Int.tmod_eq_emod_of_nonneg (by omega)
 clear ho
 generalize (z9 p c.street).filter (fun y => zLM y == zLM x) = o at *
 have si := k9 o x (by omega)
 rw [p5 hxo] at si
 have hk := p6 hxo
 generalize o.idxOf x = kk at *
 have sb1 := L4 x c.src
 have sb2 := L4 c.dst x
 have si1 := k9 (z9 p c.street) x (by omega)
 have si2 := k9 (z9 p c.street) c.src (by omega)
 have hi1 : -1 ≤ zLS (z9 p c.street) x ∧ zLS (z9 p c.street) x ≤ 8 := by
  rw [p5 hx]; have := p6 hx; omega
 have hi2 : -1 ≤ zLS (z9 p c.street) c.src ∧ zLS (z9 p c.street) c.src ≤ 8 := by
  unfold zLS; split
  ·rename_i h; have := p6 h; omega
  ·omega
 generalize zLS (z9 p c.street) x = ix at *
 generalize zLS (z9 p c.street) c.src = iy at *
 have w1 : IntKind.i64.wrap (ix - iy) = ix - iy := wrap_i64 (by omega) (by omega)
 have w2 : IntKind.i64.wrap (ix - iy + 1) = ix - iy + 1 := wrap_i64 (by omega) (by omega)
 rw [e1] at sp
 generalize x.lt c.src = t1 at *
 generalize c.dst.lt x = t2 at *
 cases t1 <;> cases t2
 ·rw [if_pos ⟨rfl, rfl⟩] at hRR
  subst hRR
  refine y3 func141 rfl (fun E hE => ?_); simp only [go_sem, ntmps141]
  repeat' (first | (show z3 ..; first | (refine Qr rfl ?_; try intro _ hK; try simp only [go_sem, *]) | (refine Qi rfl rfl rfl rfl (fun hb _ hK => ?_) (fun hb => ?_) <;> (have hc := hb; try simp only [go_sem] at hc; simp only [go_sem, *]))) | (show Hold ..; first | refine Qh rfl ?_ | refine q6 rfl mixed (by kernel_rfl) ?_ | (refine z7 rfl ⟨_, rfl, fun hb => ?_, fun hb => ?_⟩ <;> (have hc := hb; try simp only [go_sem] at hc)) | refine z8 rfl ?_) | (refine Qb ?_ ?_; focus kernel_rfl) | (show q7 ..; first | (refine v5 (sp) ?_ ?_ ?_ ?_; (focus (simp only [go_sem, *]; done)); (focus (first | (simp; done) | (simp [go_sem]; done))); (focus (first | (simp; done) | (simp [go_sem]; done))); simp only [go_sem, *])) | ((with_reducible refine And.intro ?_ ?_); focus omega) | (refine z6 hK ?_; clear hK; simp only [go_sem, *]) | (simp only [z5, z4, go_sem, *]))
  all_goals first | contradiction | omega | skip
  (refine o7 [3] (si) (by simp only [go_sem, *]) (.raw _) ?_; simp only [go_sem, *])
  repeat' (first | (show z3 ..; first | (refine Qr rfl ?_; try intro _ hK; try simp only [go_sem, *]) | (refine Qi rfl rfl rfl rfl (fun hb _ hK => ?_) (fun hb => ?_) <;> (have hc := hb; try simp only [go_sem] at hc; simp only [go_sem, *]))) | (show Hold ..; first | refine Qh rfl ?_ | refine q6 rfl mixed (by kernel_rfl) ?_ | (refine z7 rfl ⟨_, rfl, fun hb => ?_, fun hb => ?_⟩ <;> (have hc := hb; try simp only [go_sem] at hc)) | refine z8 rfl ?_) | (refine Qb ?_ ?_; focus kernel_rfl) | (show q7 ..; first | (refine q8 (sb1) ?_ ?_; (focus (simp only [go_sem, *]; done)); simp only [go_sem, *]) | (refine q8 (sb2) ?_ ?_; (focus (simp only [go_sem, *]; done)); simp only [go_sem, *]) | (refine q8 (si1) ?_ ?_; (focus (simp only [go_sem, *]; done)); simp only [go_sem, *]) | (refine q8 (si2) ?_ ?_; (focus (simp only [go_sem, *]; done)); simp only [go_sem, *])) | ((with_reducible refine And.intro ?_ ?_); focus omega) | (refine z6 hK ?_; clear hK; simp only [go_sem, *]) | (simp only [z5, z4, go_sem, *]))
  all_goals first | contradiction | omega | skip
  refine ⟨[.own 5 3 0 1], [], [5], ⟨by simp only [x9, go_sem], trivial⟩, ?_⟩
  simp only [go_sem, *]
 ·rw [if_neg (fun h => by cases h.2)] at hRR
  subst hRR
  refine y3 func141 rfl (fun E hE => ?_); simp only [go_sem, ntmps141]
  repeat' (first | (show z3 ..; first | (refine Qr rfl ?_; try intro _ hK; try simp only [go_sem, *]) | (refine Qi rfl rfl rfl rfl (fun hb _ hK => ?_) (fun hb => ?_) <;> (have hc := hb; try simp only [go_sem] at hc; simp only [go_sem, *]))) | (show Hold ..; first | refine Qh rfl ?_ | refine q6 rfl mixed (by kernel_rfl) ?_ | (refine z7 rfl ⟨_, rfl, fun hb => ?_, fun hb => ?_⟩ <;> (have hc := hb; try simp only [go_sem] at hc)) | refine z8 rfl ?_) | (refine Qb ?_ ?_; focus kernel_rfl) | (show q7 ..; first | (refine v5 (sp) ?_ ?_ ?_ ?_; (focus (simp only [go_sem, *]; done)); (focus (first | (simp; done) | (simp [go_sem]; done))); (focus (first | (simp; done) | (simp [go_sem]; done))); simp only [go_sem, *])) | ((with_reducible refine And.intro ?_ ?_); focus omega) | (refine z6 hK ?_; clear hK; simp only [go_sem, *]) | (simp only [z5, z4, go_sem, *]))
  all_goals first | contradiction | omega | skip
  (refine o7 [3] (si) (by simp only [go_sem, *]) (.raw _) ?_; simp only [go_sem, *])
  repeat' (first | (show z3 ..; first | (refine Qr rfl ?_; try intro _ hK; try simp only [go_sem, *]) | (refine Qi rfl rfl rfl rfl (fun hb _ hK => ?_) (fun hb => ?_) <;> (have hc := hb; try simp only [go_sem] at hc; simp only [go_sem, *]))) | (show Hold ..; first | refine Qh rfl ?_ | refine q6 rfl mixed (by kernel_rfl) ?_ | (refine z7 rfl ⟨_, rfl, fun hb => ?_, fun hb => ?_⟩ <;> (have hc := hb; try simp only [go_sem] at hc)) | refine z8 rfl ?_) | (refine Qb ?_ ?_; focus kernel_rfl) | (show q7 ..; first | (refine q8 (sb1) ?_ ?_; (focus (simp only [go_sem, *]; done)); simp only [go_sem, *]) | (refine q8 (sb2) ?_ ?_; (focus (simp only [go_sem, *]; done)); simp only [go_sem, *]) | (refine q8 (si1) ?_ ?_; (focus (simp only [go_sem, *]; done)); simp only [go_sem, *]) | (refine q8 (si2) ?_ ?_; (focus (simp only [go_sem, *]; done)); simp only [go_sem, *])) | ((with_reducible refine And.intro ?_ ?_); focus omega) | (refine z6 hK ?_; clear hK; simp only [go_sem, *]) | (simp only [z5, z4, go_sem, *]))
  all_goals first | contradiction | omega | skip
  refine ⟨[.own 5 3 0 1], [], [5], ⟨by simp only [x9, go_sem], trivial⟩, ?_⟩
  simp only [go_sem, *]
 ·rw [if_neg (fun h => by cases h.1)] at hRR
  subst hRR
  refine y3 func141 rfl (fun E hE => ?_); simp only [go_sem, ntmps141]
  repeat' (first | (show z3 ..; first | (refine Qr rfl ?_; try intro _ hK; try simp only [go_sem, *]) | (refine Qi rfl rfl rfl rfl (fun hb _ hK => ?_) (fun hb => ?_) <;> (have hc := hb; try simp only [go_sem] at hc; simp only [go_sem, *]))) | (show Hold ..; first | refine Qh rfl ?_ | refine q6 rfl mixed (by kernel_rfl) ?_ | (refine z7 rfl ⟨_, rfl, fun hb => ?_, fun hb => ?_⟩ <;> (have hc := hb; try simp only [go_sem] at hc)) | refine z8 rfl ?_) | (refine Qb ?_ ?_; focus kernel_rfl) | (show q7 ..; first | (refine v5 (sp) ?_ ?_ ?_ ?_; (focus (simp only [go_sem, *]; done)); (focus (first | (simp; done) | (simp [go_sem]; done))); (focus (first | (simp; done) | (simp [go_sem]; done))); simp only [go_sem, *])) | ((with_reducible refine And.intro ?_ ?_); focus omega) | (refine z6 hK ?_; clear hK; simp only [go_sem, *]) | (simp only [z5, z4, go_sem, *]))
  all_goals first | contradiction | omega | skip
  (refine o7 [3] (si) (by simp only [go_sem, *]) (.raw _) ?_; simp only [go_sem, *])
  repeat' (first | (show z3 ..; first | (refine Qr rfl ?_; try intro _ hK; try simp only [go_sem, *]) | (refine Qi rfl rfl rfl rfl (fun hb _ hK => ?_) (fun hb => ?_) <;> (have hc := hb; try simp only [go_sem] at hc; simp only [go_sem, *]))) | (show Hold ..; first | refine Qh rfl ?_ | refine q6 rfl mixed (by kernel_rfl) ?_ | (refine z7 rfl ⟨_, rfl, fun hb => ?_, fun hb => ?_⟩ <;> (have hc := hb; try simp only [go_sem] at hc)) | refine z8 rfl ?_) | (refine Qb ?_ ?_; focus kernel_rfl) | (show q7 ..; first | (refine q8 (sb1) ?_ ?_; (focus (simp only [go_sem, *]; done)); simp only [go_sem, *]) | (refine q8 (sb2) ?_ ?_; (focus (simp only [go_sem, *]; done)); simp only [go_sem, *]) | (refine q8 (si1) ?_ ?_; (focus (simp only [go_sem, *]; done)); simp only [go_sem, *]) | (refine q8 (si2) ?_ ?_; (focus (simp only [go_sem, *]; done)); simp only [go_sem, *])) | ((with_reducible refine And.intro ?_ ?_); focus omega) | (refine z6 hK ?_; clear hK; simp only [go_sem, *]) | (simp only [z5, z4, go_sem, *]))
  all_goals first | contradiction | omega | skip
  refine ⟨[.own 5 3 0 1], [], [5], ⟨by simp only [x9, go_sem], trivial⟩, ?_⟩
  simp only [go_sem, *]
 ·rw [if_neg (fun h => by cases h.1)] at hRR
  subst hRR
  refine y3 func141 rfl (fun E hE => ?_); simp only [go_sem, ntmps141]
  repeat' (first | (show z3 ..; first | (refine Qr rfl ?_; try intro _ hK; try simp only [go_sem, *]) | (refine Qi rfl rfl rfl rfl (fun hb _ hK => ?_) (fun hb => ?_) <;> (have hc := hb; try simp only [go_sem] at hc; simp only [go_sem, *]))) | (show Hold ..; first | refine Qh rfl ?_ | refine q6 rfl mixed (by kernel_rfl) ?_ | (refine z7 rfl ⟨_, rfl, fun hb => ?_, fun hb => ?_⟩ <;> (have hc := hb; try simp only [go_sem] at hc)) | refine z8 rfl ?_) | (refine Qb ?_ ?_; focus kernel_rfl) | (show q7 ..; first | (refine v5 (sp) ?_ ?_ ?_ ?_; (focus (simp only [go_sem, *]; done)); (focus (first | (simp; done) | (simp [go_sem]; done))); (focus (first | (simp; done) | (simp [go_sem]; done))); simp only [go_sem, *])) | ((with_reducible refine And.intro ?_ ?_); focus omega) | (refine z6 hK ?_; clear hK; simp only [go_sem, *]) | (simp only [z5, z4, go_sem, *]))
  all_goals first | contradiction | omega | skip
  (refine o7 [3] (si) (by simp only [go_sem, *]) (.raw _) ?_; simp only [go_sem, *])
  repeat' (first | (show z3 ..; first | (refine Qr rfl ?_; try intro _ hK; try simp only [go_sem, *]) | (refine Qi rfl rfl rfl rfl (fun hb _ hK => ?_) (fun hb => ?_) <;> (have hc := hb; try simp only [go_sem] at hc; simp only [go_sem, *]))) | (show Hold ..; first | refine Qh rfl ?_ | refine q6 rfl mixed (by kernel_rfl) ?_ | (refine z7 rfl ⟨_, rfl, fun hb => ?_, fun hb => ?_⟩ <;> (have hc := hb; try simp only [go_sem] at hc)) | refine z8 rfl ?_) | (refine Qb ?_ ?_; focus kernel_rfl) | (show q7 ..; first | (refine q8 (sb1) ?_ ?_; (focus (simp only [go_sem, *]; done)); simp only [go_sem, *]) | (refine q8 (sb2) ?_ ?_; (focus (simp only [go_sem, *]; done)); simp only [go_sem, *]) | (refine q8 (si1) ?_ ?_; (focus (simp only [go_sem, *]; done)); simp only [go_sem, *]) | (refine q8 (si2) ?_ ?_; (focus (simp only [go_sem, *]; done)); simp only [go_sem, *])) | ((with_reducible refine And.intro ?_ ?_); focus omega) | (refine z6 hK ?_; clear hK; simp only [go_sem, *]) | (simp only [z5, z4, go_sem, *]))
  all_goals first | contradiction | omega | skip
  refine ⟨[.own 5 3 0 1], [], [5], ⟨by simp only [x9, go_sem], trivial⟩, ?_⟩
  simp only [go_sem, *]
theorem zHh (p : zLI) (c : Change) (x : Plate) (v : Valid p) (f : Fit p c) (hx : x ∈ z9 p c.street) : zLJ prog 141 [y5 p, c.enc, x.enc] [] (r8 (toP p c x)) [] := by
 rcases V8 f.kind with k | k | k | k | k | k | k
 ·exact zHv p c x v f.street hx k
 ·exact zHw p c x v f.street hx k
 ·exact zHx p c x v f.street hx k
 ·exact zHy p c x v f.street ⟨(f.other (.inl k)).1, (f.other (.inl k)).2.1⟩ hx k
 ·exact zHz p c x v f.street hx k
 ·exact zH0 p c x v f.street hx k
 ·exact zH1 p c x v f.street hx k
end Go.Abs

namespace Go.Abs
open Go Go.Proofs Tryz
attribute [local irreducible] z3 Hold q7
def mvs (p : zLI) (c : Change) (h : House) : List Move := (mv p c h).map fun z => ⟨h, z⟩
theorem zEZ {α β : Type} [Inhabited α] {l : List α} {g : α → List β} {i : Nat} (h : i < l.length) : (l.drop i).flatMap g = g (l.getD i default) ++ (l.drop (i + 1)).flatMap g := by
 rw [v3 h, List.flatMap_cons]
theorem zHZ (p : zLI) (c : Change) (v : Valid p) (f : Fit p c) : zLJ prog 105 [y5 p, c.enc] [] (.own 0 6 0 (l9 p c).length) [.row 6 ((l9 p c).map Move.enc)] := by
  have hR : ([] : List Move) ++ ((y4 p).drop 0).flatMap (mvs p c) = l9 p c := rfl
  have hRl := zBt p c
  have hc := v.count
  have sh := zHU p (by have := v.len; omega) (fun l hl => by have := (v.rows l hl).len; omega) (by omega)
  have hin : ∀ z, z ∈ y4 p → z.street = c.street → z.plate ∈ z9 p c.street := fun z hz e => by rw [← e]; exact (mem_houses.1 hz).2.2
  generalize l9 p c = R at *
  generalize y4 p = hs at *
  refine y3 func105 rfl (fun E hE => ?_); simp only [go_sem, ntmps105]
  repeat' (first | (show z3 ..; first | (refine Qr rfl ?_; try intro _ hK; try simp only [go_sem, *])) | (show Hold ..; first | refine Qh rfl ?_ | refine q6 rfl mixed (by kernel_rfl) ?_ | (refine z7 rfl ⟨_, rfl, fun hb => ?_, fun hb => ?_⟩ <;> (have hc := hb; try simp only [go_sem] at hc)) | refine z8 rfl ?_) | (refine Qb ?_ ?_; focus kernel_rfl) | (show q7 ..; first | (refine v5 (sh) ?_ ?_ ?_ ?_; (focus (simp only [go_sem, *]; done)); (focus (first | (simp; done) | (simp [go_sem]; done))); (focus (first | (simp; done) | (simp [go_sem]; done))); simp only [go_sem, *])) | ((with_reducible refine And.intro ?_ ?_); focus omega) | (refine z6 hK ?_; clear hK; simp only [go_sem, *]) | (simp only [z5, z4, go_sem, *]))
  refine y8 rfl (fun zn zN zenv zAs => ∃ (i : Nat) (acc : List Move), zn = (hs.length) - i ∧ i ≤ (hs.length) ∧ (acc ++ (hs.drop i).flatMap (mvs p c) = R) ∧ zN = 58 ∧ zenv = [(7, iV i), (6, .own 2 3 0 hs.length), (5, .own 3 6 0 acc.length), (2, .ptr 0 0), (3, .ptr 1 0)] ∧ zAs = [.box [.list (p.map y6)], .box [iV c.kind, iV c.street, iV c.other, iV c.src.number, iV c.src.letter, iV c.dst.number, iV c.dst.letter], .row 3 (hs.map House.enc), .row 6 (acc.map Move.enc)]) (hs.length) ⟨[some 0, some 1, some 2, none], [], _, _, _, (by (simp only [Weak, go_sem, List.map_append, List.map_set, *] <;> (try simp (disch := omega) only [q9]) <;> (try simp) <;> (try omega))), 0, [], (by simp), (by simp), (by exact hR), rfl, rfl, rfl⟩ ?_; rintro _ _ _ _ ⟨i, acc, rfl, hi, hP, rfl, rfl, rfl⟩
  clear hR
  have hlen1 := congrArg List.length hP
  simp only [List.length_append] at hlen1
  by_cases hi : i < hs.length
  · rw [zEZ hi] at hP
    have hm := hin _ (w6 hi)
    have ml := zBv p c (hs.getD i default)
    by_cases q : (hs.getD i default).street = c.street
    · have hS : acc ++ (((mv p c (hs.getD i default)).drop 0).map (fun z => (⟨hs.getD i default, z⟩ : Move)) ++ (hs.drop (i + 1)).flatMap (mvs p c)) = R := hP
      have st := zHh p c (hs.getD i default).plate v f (hm q)
      have q' : ((hs.getD i default).street == c.street) = true := by rw [beq_iff_eq]; exact q
      unfold mv at hS ml
      rw [if_pos q] at hS ml
      clear q hP hm hin
      generalize hll : toP p c (hs.getD i default).plate = l at *
      repeat' (first | (show z3 ..; first | (refine Qr rfl ?_; try intro _ hK; try simp only [go_sem, *])) | (show Hold ..; first | refine Qh rfl ?_ | refine q6 rfl mixed (by kernel_rfl) ?_ | (refine z7 rfl ⟨_, rfl, fun hb => ?_, fun hb => ?_⟩ <;> (have hc := hb; try simp only [go_sem] at hc)) | refine z8 rfl ?_) | (refine Qb ?_ ?_; focus kernel_rfl) | (show q7 ..; first | (refine q8 (st) ?_ ?_; (focus (simp only [go_sem, *]; done)); simp only [go_sem, *])) | ((with_reducible refine And.intro ?_ ?_); focus omega) | (refine z6 hK ?_; clear hK; simp only [go_sem, *]) | (simp only [z5, z4, go_sem, *]))
      all_goals first | contradiction | omega | skip
      generalize hh : hs.getD i default = h at *
      refine y8 rfl (fun zn zN zenv zAs => ∃ (j : Nat) (acc2 : List Move), zn = (l.length) - j ∧ j ≤ (l.length) ∧ (acc2 ++ ((l.drop j).map (fun z => (⟨h, z⟩ : Move)) ++ (hs.drop (i + 1)).flatMap (mvs p c)) = R) ∧ zN = 58 ∧ zenv = [(9, iV j), (8, r8 l), (7, iV i), (6, .own 2 3 0 hs.length), (5, .own 3 6 0 acc2.length), (2, .ptr 0 0), (3, .ptr 1 0)] ∧ zAs = [.box [.list (p.map y6)], .box [iV c.kind, iV c.street, iV c.other, iV c.src.number, iV c.src.letter, iV c.dst.number, iV c.dst.letter], .row 3 (hs.map House.enc), .row 6 (acc2.map Move.enc)]) (l.length) ⟨[some 0, some 1, some 2, some 3], [], _, _, _, (by (simp only [Weak, go_sem, List.map_append, List.map_set, *] <;> (try simp (disch := omega) only [q9]) <;> (try simp) <;> (try omega))), 0, acc, (by simp), (by simp), (by exact hS), rfl, rfl, rfl⟩ ?_; rintro _ _ _ _ ⟨j, acc2, rfl, hj, hQ, rfl, rfl, rfl⟩
      have hlen2 := congrArg List.length hQ
      simp only [List.length_append, List.length_map, List.length_drop] at hlen2
      clear hlen1 hS
      by_cases hj : j < l.length
      · repeat' (first | (show z3 ..; first | (refine Qr rfl ?_; try intro _ hK; try simp only [go_sem, *])) | (show Hold ..; first | refine Qh rfl ?_ | refine q6 rfl mixed (by kernel_rfl) ?_ | (refine z7 rfl ⟨_, rfl, fun hb => ?_, fun hb => ?_⟩ <;> (have hc := hb; try simp only [go_sem] at hc)) | refine z8 rfl ?_) | (refine Qb ?_ ?_; focus kernel_rfl) | ((with_reducible refine And.intro ?_ ?_); focus omega) | (refine z6 hK ?_; clear hK; simp only [go_sem, *]) | (simp only [z5, z4, go_sem, *]))
        all_goals first | contradiction | omega | skip
        refine ⟨_, (by omega), [some 0, some 1, some 2, some 5], [], _, _, _, (by (simp only [Weak, go_sem, List.map_append, List.map_set, *] <;> (try simp (disch := omega) only [q9]) <;> (try simp) <;> (try omega))), j + 1, acc2 ++ [⟨h, l.getD j default⟩], rfl, (by omega), (by rw [← hQ, v3 (i := j) (by assumption), List.map_cons]; simp), rfl, rfl, rfl⟩
      · rw [v4 (by omega)] at hQ
        repeat' (first | (show z3 ..; first | (refine Qr rfl ?_; try intro _ hK; try simp only [go_sem, *])) | (show Hold ..; first | refine Qh rfl ?_ | refine q6 rfl mixed (by kernel_rfl) ?_ | (refine z7 rfl ⟨_, rfl, fun hb => ?_, fun hb => ?_⟩ <;> (have hc := hb; try simp only [go_sem] at hc)) | refine z8 rfl ?_) | (refine Qb ?_ ?_; focus kernel_rfl) | ((with_reducible refine And.intro ?_ ?_); focus omega) | (refine z6 hK ?_; clear hK; simp only [go_sem, *]) | (simp only [z5, z4, go_sem, *]))
        all_goals first | contradiction | omega | skip
        refine ⟨_, (by omega), [some 0, some 1, some 2, some 3], [], _, _, _, (by (simp only [Weak, go_sem, List.map_append, List.map_set, *] <;> (try simp (disch := omega) only [q9]) <;> (try simp) <;> (try omega))), i + 1, acc2, rfl, (by omega), (by simpa using hQ), rfl, rfl, rfl⟩
    · have hS : acc ++ (([hs.getD i default].drop 0).map (fun z => (⟨hs.getD i default, z⟩ : Move)) ++ (hs.drop (i + 1)).flatMap (mvs p c)) = R := by
        rw [← hP]; unfold mvs mv; rw [if_neg q]; rfl
      have q' : ((hs.getD i default).street == c.street) = false := by rw [beq_eq_false_iff_ne]; exact q
      clear q hP hm hin ml
      repeat' (first | (show z3 ..; first | (refine Qr rfl ?_; try intro _ hK; try simp only [go_sem, *])) | (show Hold ..; first | refine Qh rfl ?_ | refine q6 rfl mixed (by kernel_rfl) ?_ | (refine z7 rfl ⟨_, rfl, fun hb => ?_, fun hb => ?_⟩ <;> (have hc := hb; try simp only [go_sem] at hc)) | refine z8 rfl ?_) | (refine Qb ?_ ?_; focus kernel_rfl) | ((with_reducible refine And.intro ?_ ?_); focus omega) | (refine z6 hK ?_; clear hK; simp only [go_sem, *]) | (simp only [z5, z4, go_sem, *]))
      all_goals first | contradiction | omega | skip
      generalize hh : hs.getD i default = h at *
      refine y8 rfl (fun zn zN zenv zAs => ∃ (j : Nat) (acc2 : List Move), zn = ([h].length) - j ∧ j ≤ ([h].length) ∧ (acc2 ++ (([h].drop j).map (fun z => (⟨h, z⟩ : Move)) ++ (hs.drop (i + 1)).flatMap (mvs p c)) = R) ∧ zN = 58 ∧ zenv = [(9, iV j), (8, r8 [h]), (7, iV i), (6, .own 2 3 0 hs.length), (5, .own 3 6 0 acc2.length), (2, .ptr 0 0), (3, .ptr 1 0)] ∧ zAs = [.box [.list (p.map y6)], .box [iV c.kind, iV c.street, iV c.other, iV c.src.number, iV c.src.letter, iV c.dst.number, iV c.dst.letter], .row 3 (hs.map House.enc), .row 6 (acc2.map Move.enc)]) ([h].length) ⟨[some 0, some 1, some 2, some 3], [4], _, _, _, (by (simp only [Weak, go_sem, List.map_append, List.map_set, *] <;> (try simp (disch := omega) only [q9]) <;> (try simp) <;> (try omega))), 0, acc, (by simp), (by simp), (by exact hS), rfl, rfl, rfl⟩ ?_; rintro _ _ _ _ ⟨j, acc2, rfl, hj, hQ, rfl, rfl, rfl⟩
      generalize hll : [h] = l at *
      have ml : l.length ≤ 2 := by rw [← hll]; simp
      have hlen2 := congrArg List.length hQ
      simp only [List.length_append, List.length_map, List.length_drop] at hlen2
      clear hlen1 hS
      by_cases hj : j < l.length
      · repeat' (first | (show z3 ..; first | (refine Qr rfl ?_; try intro _ hK; try simp only [go_sem, *])) | (show Hold ..; first | refine Qh rfl ?_ | refine q6 rfl mixed (by kernel_rfl) ?_ | (refine z7 rfl ⟨_, rfl, fun hb => ?_, fun hb => ?_⟩ <;> (have hc := hb; try simp only [go_sem] at hc)) | refine z8 rfl ?_) | (refine Qb ?_ ?_; focus kernel_rfl) | ((with_reducible refine And.intro ?_ ?_); focus omega) | (refine z6 hK ?_; clear hK; simp only [go_sem, *]) | (simp only [z5, z4, go_sem, *]))
        all_goals first | contradiction | omega | skip
        refine ⟨_, (by omega), [some 0, some 1, some 2, some 5], [], _, _, _, (by (simp only [Weak, go_sem, List.map_append, List.map_set, *] <;> (try simp (disch := omega) only [q9]) <;> (try simp) <;> (try omega))), j + 1, acc2 ++ [⟨h, l.getD j default⟩], rfl, (by omega), (by rw [← hQ, v3 (i := j) (by assumption), List.map_cons]; simp), rfl, rfl, rfl⟩
      · rw [v4 (by omega)] at hQ
        repeat' (first | (show z3 ..; first | (refine Qr rfl ?_; try intro _ hK; try simp only [go_sem, *])) | (show Hold ..; first | refine Qh rfl ?_ | refine q6 rfl mixed (by kernel_rfl) ?_ | (refine z7 rfl ⟨_, rfl, fun hb => ?_, fun hb => ?_⟩ <;> (have hc := hb; try simp only [go_sem] at hc)) | refine z8 rfl ?_) | (refine Qb ?_ ?_; focus kernel_rfl) | ((with_reducible refine And.intro ?_ ?_); focus omega) | (refine z6 hK ?_; clear hK; simp only [go_sem, *]) | (simp only [z5, z4, go_sem, *]))
        all_goals first | contradiction | omega | skip
        refine ⟨_, (by omega), [some 0, some 1, some 2, some 3], [], _, _, _, (by (simp only [Weak, go_sem, List.map_append, List.map_set, *] <;> (try simp (disch := omega) only [q9]) <;> (try simp) <;> (try omega))), i + 1, acc2, rfl, (by omega), (by simpa using hQ), rfl, rfl, rfl⟩
  · rw [v4 (by omega), List.flatMap_nil, List.append_nil] at hP
    repeat' (first | (show z3 ..; first | (refine Qr rfl ?_; try intro _ hK; try simp only [go_sem, *])) | (show Hold ..; first | refine Qh rfl ?_ | refine q6 rfl mixed (by kernel_rfl) ?_ | (refine z7 rfl ⟨_, rfl, fun hb => ?_, fun hb => ?_⟩ <;> (have hc := hb; try simp only [go_sem] at hc)) | refine z8 rfl ?_) | (refine Qb ?_ ?_; focus kernel_rfl) | ((with_reducible refine And.intro ?_ ?_); focus omega) | (refine z6 hK ?_; clear hK; simp only [go_sem, *]) | (simp only [z5, z4, go_sem, *]))
    all_goals first | contradiction | omega | skip
    refine ⟨[_], [some 3], [], ⟨rfl, trivial⟩, ?_⟩
    simp only [go_sem, hP, *]
end Go.Abs

namespace Go.Abs
open Go Go.Proofs Tryz
attribute [local irreducible] z3 Hold q7
theorem zHV {n : Nat} (l : List House) (hn : 0 < n ∧ n ≤ 3) (hst : ∀ z, z ∈ l → 0 ≤ z.street ∧ z.street < n) (hl : l.length ≤ 4294967296) : zLJ prog 127 [.list (l.map House.enc), iV n] [] (y5 (zLT l n)) [] := by
 rcases (by omega : n = 1 ∨ n = 2 ∨ n = 3) with rfl | rfl | rfl
 ·exact zHW l hst hl
 ·exact zHX l hst hl
 ·exact zHY l hst hl
theorem zK7 (p : zLI) (c : Change) (v : Valid p) (f : Fit p c) : zLJ prog 91 [y5 p, c.enc] [] (y5 (u4 p c)) [] := by
 have hst := fun z (hz : z ∈ s9 p c) => N5 v f hz
 have hml := zBt p c
 have hd := zFj p c
 have hcn := v.count
 have hdl : (s9 p c).length = (l9 p c).length := by rw [← hd, List.length_map]
 have sl := zHV (n := p.length) (s9 p c) ⟨v.ne, v.len⟩ (fun z hz => ⟨(hst z hz).1, (hst z hz).2.1⟩) (by omega)
 have sm := zHZ p c v f
 have e : zLT (s9 p c) p.length = u4 p c := rfl
 rw [e] at sl
 clear e
 generalize u4 p c = Q at *
 have h0 : ((l9 p c).take 0).map Move.dst = [] := by simp
 have hE0 : ((l9 p c).take (l9 p c).length).map Move.dst = s9 p c := by rw [List.take_length, hd]
 have hvl := v.len
 have hMb : (l9 p c).length ≤ 48 := by omega
 have hLb : (s9 p c).length ≤ 48 := by omega
 generalize l9 p c = M at *
 generalize s9 p c = L at *
 clear hst hd hdl
 refine y3 func91 rfl (fun E hE => ?_); simp only [go_sem, ntmps91]
 repeat' (first | (show z3 ..; first | (refine Qr rfl ?_; try intro _ hK; try simp only [go_sem, *])) | (show Hold ..; first | refine Qh rfl ?_ | (refine z7 rfl ⟨_, rfl, fun hb => ?_, fun hb => ?_⟩ <;> (have hc := hb; try simp only [go_sem] at hc)) | refine z8 rfl ?_) | (show q7 ..; first | (refine v5 (sm) ?_ ?_ ?_ ?_; (focus (simp only [go_sem, *]; done)); (focus (first | (simp; done) | (simp [go_sem]; done))); (focus (first | (simp; done) | (simp [go_sem]; done))); simp only [go_sem, *])) | ((with_reducible refine And.intro ?_ ?_); focus omega) | (refine z6 hK ?_; clear hK; simp only [go_sem, *]) | (simp only [z5, z4, go_sem, *]))
 refine y8 rfl (fun zn zN zenv zAs => ∃ (i : Nat) (acc : List House), zn = (M.length) - i ∧ i ≤ (M.length) ∧ (acc ++ (M.drop i).map Move.dst = L) ∧ zN = 30 ∧ zenv = [(7, iV i), (6, .own 3 6 0 M.length), (5, .own 4 3 0 acc.length), (2, .ptr 0 0), (3, .ptr 1 0), (4, .ptr 2 0)] ∧ zAs = [.box [.list (p.map y6)], .box [iV c.kind, iV c.street, iV c.other, iV c.src.number, iV c.src.letter, iV c.dst.number, iV c.dst.letter], .box [zLb], .row 6 (M.map Move.enc), .row 3 (acc.map House.enc)]) (M.length) ⟨[some 0, some 1, some 2, some 3, none], [], _, _, _, (by (simp only [Weak, go_sem, List.map_append, List.map_set, *] <;> (try simp (disch := omega) only [q9]) <;> (try simp) <;> (try omega))), 0, [], (by simp), (by simp), (by rw [← hE0, List.take_length]; rfl), rfl, rfl, rfl⟩ ?_; rintro _ _ _ _ ⟨i, acc, rfl, hi, hP, rfl, rfl, rfl⟩
 have hlen1 := congrArg List.length hP
 simp only [List.length_append, List.length_map, List.length_drop] at hlen1
 by_cases hi : i < M.length
 ·repeat' (first | (show z3 ..; first | (refine Qr rfl ?_; try intro _ hK; try simp only [go_sem, *])) | (show Hold ..; first | refine Qh rfl ?_ | (refine z7 rfl ⟨_, rfl, fun hb => ?_, fun hb => ?_⟩ <;> (have hc := hb; try simp only [go_sem] at hc)) | refine z8 rfl ?_) | ((with_reducible refine And.intro ?_ ?_); focus omega) | (refine z6 hK ?_; clear hK; simp only [go_sem, *]) | (simp only [z5, z4, go_sem, *]))
  all_goals first | contradiction | omega | skip
  refine ⟨_, (by omega), [some 0, some 1, some 2, some 3, some 6], [], _, _, _, (by (simp only [Weak, go_sem, List.map_append, List.map_set, *] <;> (try simp (disch := omega) only [q9]) <;> (try simp) <;> (try omega))), i + 1, acc ++ [(M.getD i default).dst], rfl, (by omega), (by rw [← hP, v3 (i := i) (by assumption), List.map_cons]; simp), rfl, rfl, rfl⟩
 ·rw [v4 (by omega), List.map_nil, List.append_nil] at hP
  subst hP
  repeat' (first | (show z3 ..; first | (refine Qr rfl ?_; try intro _ hK; try simp only [go_sem, *])) | (show Hold ..; first | refine Qh rfl ?_ | (refine z7 rfl ⟨_, rfl, fun hb => ?_, fun hb => ?_⟩ <;> (have hc := hb; try simp only [go_sem] at hc)) | refine z8 rfl ?_) | ((with_reducible refine And.intro ?_ ?_); focus omega) | (refine z6 hK ?_; clear hK; simp only [go_sem, *]) | (simp only [z5, z4, go_sem, *]))
  all_goals first | contradiction | omega | skip
  (refine r6 (sl) (by simp only [go_sem, *]; done) rfl (by simp only [go_sem]; done) (by simp) (by simp) ?_; simp only [go_sem, w9, *])
  repeat' (first | (show z3 ..; first | (refine Qr rfl ?_; try intro _ hK; try simp only [go_sem, *])) | (show Hold ..; first | refine Qh rfl ?_ | (refine z7 rfl ⟨_, rfl, fun hb => ?_, fun hb => ?_⟩ <;> (have hc := hb; try simp only [go_sem] at hc)) | refine z8 rfl ?_) | ((with_reducible refine And.intro ?_ ?_); focus omega) | (refine z6 hK ?_; clear hK; simp only [go_sem, *]) | (simp only [z5, z4, go_sem, *]))
  all_goals first | contradiction | omega | skip
  refine ⟨[y5 Q], [], [], ⟨(by simp only [x9, go_sem]), trivial⟩, ?_⟩; simp only [go_sem, *]
end Go.Abs

namespace Go.Abs
open Go Go.Proofs Tryz
attribute [local irreducible] z3 Hold q7
end Go.Abs

namespace Go.Abs
open Go Go.Proofs Tryz
attribute [local irreducible] z3 Hold q7
theorem zK1 (p : zLI) (h1 : p.length ≤ 1048576) (h2 : ∀ l, l ∈ p → l.length ≤ 1048576) : zLJ prog 24 [y5 p] [] (y5 p) [] := by
 refine y3 func24 rfl (fun E hE => ?_); simp only [go_sem, ntmps24]
 repeat' (first | (show z3 ..; first | (refine Qr rfl ?_; try intro _ hK; try simp only [go_sem, *])) | (show Hold ..; first | refine Qh rfl ?_ | refine q6 rfl mixed (by kernel_rfl) ?_ | (refine z7 rfl ⟨_, rfl, fun hb => ?_, fun hb => ?_⟩ <;> (have hc := hb; try simp only [go_sem] at hc)) | refine z8 rfl ?_) | (refine Qb ?_ ?_; focus kernel_rfl) | ((with_reducible refine And.intro ?_ ?_); focus omega) | (refine z6 hK ?_; clear hK; simp only [go_sem, *]) | (simp only [z5, z4, go_sem, *]))
 refine y8 rfl (fun zn zN zenv zAs => ∃ (i : Nat), zn = (p.length) - i ∧ i ≤ (p.length) ∧ (NoP i) ∧ zN = 25 ∧ zenv = [(4, iV i), (1, .ptr 0 0), (2, .ptr 1 0), (3, .ptr 2 0)] ∧ zAs = [.box [.list (p.map y6)], .box [zLb], .box [.own 3 1 0 i], .box ((p.take i).map y6)]) (p.length) ⟨[some 0, some 1, some 2, none], [], _, _, _, (by (simp only [Weak, go_sem, List.map_append, List.map_set, *] <;> (try simp (disch := omega) only [q9]) <;> (try simp) <;> (try omega))), 0, (by simp), (by simp), (by trivial), rfl, rfl, rfl⟩ ?_; rintro _ _ _ _ ⟨i, rfl, hi, hP, rfl, rfl, rfl⟩
 by_cases hi2 : i < p.length
 ·have hr := h2 _ (w6 hi2)
  have e := j0 (l := p) (i := i) hi2
  repeat' (first | (show z3 ..; first | (refine Qr rfl ?_; try intro _ hK; try simp only [go_sem, *])) | (show Hold ..; first | refine Qh rfl ?_ | refine q6 rfl mixed (by kernel_rfl) ?_ | (refine z7 rfl ⟨_, rfl, fun hb => ?_, fun hb => ?_⟩ <;> (have hc := hb; try simp only [go_sem] at hc)) | refine z8 rfl ?_) | (with_reducible (show (∀ _ : AV, _ → _) ∧ _); refine And.intro ?_ ?_; (focus (intro y hy; first | (obtain ⟨z, _, rfl⟩ := List.mem_map.1 (hy); simp [go_sem]; done) | (obtain ⟨z, _, rfl⟩ := List.mem_map.1 (List.mem_of_mem_take hy); simp [go_sem]; done) | (obtain ⟨z, _, rfl⟩ := List.mem_map.1 (List.mem_of_mem_drop hy); simp [go_sem]; done) | (obtain ⟨z, _, rfl⟩ := List.mem_map.1 (List.mem_of_mem_drop (List.mem_of_mem_take hy)); simp [go_sem]; done)))) | (refine Qb ?_ ?_; focus kernel_rfl) | ((with_reducible refine And.intro ?_ ?_); focus omega) | (refine z6 hK ?_; clear hK; simp only [go_sem, *]) | (simp only [z5, z4, go_sem, *]))
  all_goals first | contradiction | omega | skip
  refine ⟨_, (by omega), [some 0, some 1, some 2, some 7], [5], _, _, _, (by (simp only [Weak, go_sem, List.map_append, List.map_set, *] <;> (try simp (disch := omega) only [q9]) <;> (try simp) <;> (try omega))), i + 1, rfl, (by omega), (by trivial), rfl, rfl, rfl⟩
 ·have e : p.take i = p := List.take_of_length_le (by omega)
  repeat' (first | (show z3 ..; first | (refine Qr rfl ?_; try intro _ hK; try simp only [go_sem, *])) | (show Hold ..; first | refine Qh rfl ?_ | refine q6 rfl mixed (by kernel_rfl) ?_ | (refine z7 rfl ⟨_, rfl, fun hb => ?_, fun hb => ?_⟩ <;> (have hc := hb; try simp only [go_sem] at hc)) | refine z8 rfl ?_) | (refine Qb ?_ ?_; focus kernel_rfl) | ((with_reducible refine And.intro ?_ ?_); focus omega) | (refine z6 hK ?_; clear hK; simp only [go_sem, *]) | (simp only [z5, z4, go_sem, *]))
  all_goals first | contradiction | omega | skip
  refine ⟨[.agg [.own 3 1 0 i]], [], [3], ⟨by simp only [x9, go_sem], trivial⟩, ?_⟩
  simp only [go_sem, *]
  simp
  omega
end Go.Abs

