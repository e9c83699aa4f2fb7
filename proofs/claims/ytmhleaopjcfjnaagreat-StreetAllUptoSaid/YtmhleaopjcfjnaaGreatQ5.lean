/-
  WHAT THE PROOF STANDS ON, PART 5: contracts of the program's functions and the logic that they are proved in. No condition.
-/
import Derived.Test.YtmhleaopjcfjnaaGreatQ4
set_option maxRecDepth 100000
set_option maxHeartbeats 4000000
set_option linter.unusedVariables false
set_option linter.unusedSimpArgs false
set_option linter.unusedSectionVars false
namespace Go.Abs
open Go Go.Proofs
attribute [local irreducible] zAC Hold zAN
theorem zCd (d : Dice) (l : List Plate) : (zA1 d l).2.list = d.list := by
 unfold zA1
 split
 ·exact zA2 _ _
 ·split
  ·show (zA5 1 9 (zCB 12 d)).list = _
   unfold zA5 zCB; rw [zA2, zA2]
  ·show (toD _ (zCB 12 d)).list = _
   unfold zCB; rw [zA2, zA2]
theorem zEj (d : Dice) (l : List Plate) (h : d.list.length ≤ 4294967296) (hl : l.length ≤ 4294967296) :
  Spec Tryz.prog 86 [.ptr 0 0, zAM l] [zA3 d] (Plate.enc (zA1 d l).1) [zA3 (zA1 d l).2] := by
 have ho : (zCB 12 d).list.length ≤ 4294967296 := by unfold zCB; rw [zA2]; exact h
 by_cases q : l.length = 0
 ·have s1 := zDH d 1 9 h (by omega) (by omega)
  have e : zA1 d l = (⟨zBs 1 9 d, 0⟩, zA5 1 9 d) := by unfold zA1; rw [if_pos q]
  rw [e]
  have q2 : ((l.length : Int) == 0) = true := by rw [beq_iff_eq]; omega
  clear e
  generalize zBs 1 9 d = x1 at *
  generalize zA5 1 9 d = d1 at *
  refine zAF Tryz.func86 rfl (fun E hE => ?_); simp only [go_sem, Tryz.ntmps86]
  repeat' (first | (show zAC ..; first | (refine Qr rfl ?_; try intro K' hK; try simp only [go_sem, *]) | (refine Qi rfl rfl rfl rfl (fun hb K' hK => ?_) (fun hb => ?_) <;> (have hc := hb; try simp only [go_sem] at hc; simp only [go_sem, *]))) | (show Hold ..; first | refine Qh rfl ?_ | (refine zAD rfl ⟨_, rfl, fun hb => ?_, fun hb => ?_⟩ <;> (have hc := hb; try simp only [go_sem] at hc)) | refine zAI rfl ?_) | (show zAN ..; first | (refine zAR [0] [] (s1) (by simp) ?_ ?_ (by simp) (.inl rfl) ?_ ?_ ?_; (focus (simp only [go_sem, *]; done)); (focus (simp only [go_sem, *]; done)); (focus (first | (simp; done) | (simp [go_sem]; done))); (focus (first | (simp; done) | (simp [go_sem]; done))); simp only [go_sem, *])) | ((with_reducible refine And.intro ?_ ?_); focus omega) | (refine zAB hK ?_; clear hK K'; simp only [go_sem, *]) | (simp only [zAH, zAA, go_sem, *]))
  all_goals first | contradiction | skip
  refine ⟨[.agg [iV x1, iV 0]], [some 0], [], ⟨by simp only [zAY, go_sem], trivial⟩, ?_⟩
  simp only [go_sem, *]
 ·have q2 : ((l.length : Int) == 0) = false := by rw [beq_eq_false_iff_ne]; omega
  have so := zJD d 12 h (by omega)
  have e : zA1 d l = if zGB 12 d = true then (⟨zBs 1 9 (zCB 12 d), 0⟩, zA5 1 9 (zCB 12 d)) else (l.getD (toN (l.length - 1) (zCB 12 d)).toNat default, toD (l.length - 1) (zCB 12 d)) := by unfold zA1; rw [if_neg q]
  rw [e]
  clear e
  generalize zCB 12 d = d1 at *
  by_cases b : zGB 12 d = true
  ·have s1 := zDH d1 1 9 ho (by omega) (by omega)
   rw [if_pos b]
   rw [b] at so
   clear b
   generalize zBs 1 9 d1 = x1 at *
   generalize zA5 1 9 d1 = d2 at *
   refine zAF Tryz.func86 rfl (fun E hE => ?_); simp only [go_sem, Tryz.ntmps86]
   repeat' (first | (show zAC ..; first | (refine Qr rfl ?_; try intro K' hK; try simp only [go_sem, *]) | (refine Qi rfl rfl rfl rfl (fun hb K' hK => ?_) (fun hb => ?_) <;> (have hc := hb; try simp only [go_sem] at hc; simp only [go_sem, *]))) | (show Hold ..; first | refine Qh rfl ?_ | (refine zAD rfl ⟨_, rfl, fun hb => ?_, fun hb => ?_⟩ <;> (have hc := hb; try simp only [go_sem] at hc)) | refine zAI rfl ?_) | (show zAN ..; first | (refine zAR [0] [] (so) (by simp) ?_ ?_ (by simp) (.inl rfl) ?_ ?_ ?_; (focus (simp only [go_sem, *]; done)); (focus (simp only [go_sem, *]; done)); (focus (first | (simp; done) | (simp [go_sem]; done))); (focus (first | (simp; done) | (simp [go_sem]; done))); simp only [go_sem, *]) | (refine zAR [0] [] (s1) (by simp) ?_ ?_ (by simp) (.inl rfl) ?_ ?_ ?_; (focus (simp only [go_sem, *]; done)); (focus (simp only [go_sem, *]; done)); (focus (first | (simp; done) | (simp [go_sem]; done))); (focus (first | (simp; done) | (simp [go_sem]; done))); simp only [go_sem, *])) | ((with_reducible refine And.intro ?_ ?_); focus omega) | (refine zAB hK ?_; clear hK K'; simp only [go_sem, *]) | (simp only [zAH, zAA, go_sem, *]))
   all_goals first | contradiction | skip
   refine ⟨[.agg [iV x1, iV 0]], [some 0], [], ⟨by simp only [zAY, go_sem], trivial⟩, ?_⟩
   simp only [go_sem, *]
  ·rw [if_neg b]
   rw [Bool.not_eq_true] at b
   rw [b] at so
   clear b
   have s1 := zLi d1 ((l.length : Int) - 1) ho (by omega)
   have hr := zL7 (n := (l.length : Int) - 1) (by omega) d1
   have hw : IntKind.i64.wrap ((l.length : Int) - 1) = (l.length : Int) - 1 := wrap_i64 (by omega) (by omega)
   obtain ⟨k, hk⟩ : ∃ k : Nat, toN ((l.length : Int) - 1) d1 = k := ⟨(toN ((l.length : Int) - 1) d1).toNat, by omega⟩
   rw [hk] at hr s1 ⊢
   have hkl : k < l.length := by omega
   simp only [Int.toNat_natCast]
   clear hk hr
   generalize toD ((l.length : Int) - 1) d1 = d2 at *
   refine zAF Tryz.func86 rfl (fun E hE => ?_); simp only [go_sem, Tryz.ntmps86]
   repeat' (first | (show zAC ..; first | (refine Qr rfl ?_; try intro K' hK; try simp only [go_sem, *]) | (refine Qi rfl rfl rfl rfl (fun hb K' hK => ?_) (fun hb => ?_) <;> (have hc := hb; try simp only [go_sem] at hc; simp only [go_sem, *]))) | (show Hold ..; first | refine Qh rfl ?_ | (refine zAD rfl ⟨_, rfl, fun hb => ?_, fun hb => ?_⟩ <;> (have hc := hb; try simp only [go_sem] at hc)) | refine zAI rfl ?_) | (show zAN ..; first | (refine zAR [0] [] (so) (by simp) ?_ ?_ (by simp) (.inl rfl) ?_ ?_ ?_; (focus (simp only [go_sem, *]; done)); (focus (simp only [go_sem, *]; done)); (focus (first | (simp; done) | (simp [go_sem]; done))); (focus (first | (simp; done) | (simp [go_sem]; done))); simp only [go_sem, *]) | (refine zAR [0] [] (s1) (by simp) ?_ ?_ (by simp) (.inl rfl) ?_ ?_ ?_; (focus (simp only [go_sem, *]; done)); (focus (simp only [go_sem, *]; done)); (focus (first | (simp; done) | (simp [go_sem]; done))); (focus (first | (simp; done) | (simp [go_sem]; done))); simp only [go_sem, *])) | ((with_reducible refine And.intro ?_ ?_); focus omega) | (refine zAB hK ?_; clear hK K'; simp only [go_sem, *]) | (simp only [zAH, zAA, go_sem, *]))
   all_goals first | contradiction | skip
   refine ⟨[(l.getD k default).enc], [some 0], [], ⟨by simp only [zAY, go_sem], trivial⟩, ?_⟩
   simp only [go_sem, *]
end Go.Abs

namespace Go.Abs
open Go Go.Proofs
attribute [local irreducible] zAC Hold zAN
theorem zGq (d : Dice) (p : Plan) (k s : Int) : (zFH d p k s).2.list = d.list := by
 unfold zFH zA5
 split
 ·exact zA2 _ _
 ·split
  ·simp only
   split <;> simp only [zCd, zA2]
  ·split
   ·simp only [zCd]
   ·rfl
theorem zMI (d : Dice) (p : Plan) : (zDy d p).2.list = d.list := by
 unfold zDy zA5; rw [zGq, zA2, zA2]
theorem zNw (d : Dice) (p : Plan) (h : d.list.length ≤ 4294967296) (v : Valid p) :
  Spec Tryz.prog 23 [.ptr 0 0, zAO p] [zA3 d] (Change.enc (zDy d p).1) [zA3 (zDy d p).2] := by
 have hp0 := v.ne
 have hp3 := v.len
 have s1 := zDH d 1 7 h (by omega) (by omega)
 have s2 := zLi (zA5 1 7 d) ((p.length : Int) - 1) (by unfold zA5; rw [zA2]; exact h) (by omega)
 have hr1 := zCU (lo := 1) (hi := 7) (by omega) d
 have hr2 := zL7 (n := (p.length : Int) - 1) (by omega) (zA5 1 7 d)
 have hl2 : (toD ((p.length : Int) - 1) (zA5 1 7 d)).list.length ≤ 4294967296 := by unfold zA5; rw [zA2, zA2]; exact h
 have hw0 : IntKind.i64.wrap ((p.length : Int) - 1) = (p.length : Int) - 1 := wrap_i64 (by omega) (by omega)
 unfold zDy
 obtain ⟨s, hs⟩ : ∃ s : Nat, toN ((p.length : Int) - 1) (zA5 1 7 d) = s := ⟨(toN ((p.length : Int) - 1) (zA5 1 7 d)).toNat, by omega⟩
 rw [hs] at hr2 s2 ⊢
 clear hs
 generalize toD ((p.length : Int) - 1) (zA5 1 7 d) = d2 at *
 generalize zA5 1 7 d = d1 at *
 generalize zBs 1 7 d = k at *
 have hsl : s < p.length := by omega
 have hrow : (zAL p (s : Int)).length ≤ 8 := (v.row _).len
 have hgd : List.getD p s default = zAL p (s : Int) := rfl
 unfold zFH
 by_cases k4 : k = 4
 ·rw [if_pos k4]
  subst k4
  have s3 := zDH d2 1 2 hl2 (by omega) (by omega)
  have hr3 := zCU (lo := 1) (hi := 2) (by omega) d2
  generalize zBs 1 2 d2 = x at *
  generalize zA5 1 2 d2 = d3 at *
  have s4 := zNG ((s : Int) + x) (p.length : Int) (by omega) (by omega)
  have hw1 : IntKind.i64.wrap ((s : Int) + x) = (s : Int) + x := wrap_i64 (by omega) (by omega)
  generalize ((s : Int) + x) % (p.length : Int) = o at *
  refine zAF Tryz.func23 rfl (fun E hE => ?_); simp only [go_sem, Tryz.ntmps23]
  repeat' (first | (show zAC ..; first | (refine Qr rfl ?_; try intro K' hK; try simp only [go_sem, *])) | (show Hold ..; first | refine Qh rfl ?_ | refine zAG rfl Tryz.mixed (by kernel_rfl) ?_ | (refine zAD rfl ⟨_, rfl, fun hb => ?_, fun hb => ?_⟩ <;> (have hc := hb; try simp only [go_sem] at hc)) | refine zAI rfl ?_) | (refine Qb ?_ ?_; focus kernel_rfl) | (show zAN ..; first | (refine zAR [0] [] (s1) (by simp) ?_ ?_ (by simp) (.inl rfl) ?_ ?_ ?_; (focus (simp only [go_sem, *]; done)); (focus (simp only [go_sem, *]; done)); (focus (first | (simp; done) | (simp [go_sem]; done))); (focus (first | (simp; done) | (simp [go_sem]; done))); simp only [go_sem, *]) | (refine zAR [0] [] (s2) (by simp) ?_ ?_ (by simp) (.inl rfl) ?_ ?_ ?_; (focus (simp only [go_sem, *]; done)); (focus (simp only [go_sem, *]; done)); (focus (first | (simp; done) | (simp [go_sem]; done))); (focus (first | (simp; done) | (simp [go_sem]; done))); simp only [go_sem, *]) | (refine zAR [0] [] (s3) (by simp) ?_ ?_ (by simp) (.inl rfl) ?_ ?_ ?_; (focus (simp only [go_sem, *]; done)); (focus (simp only [go_sem, *]; done)); (focus (first | (simp; done) | (simp [go_sem]; done))); (focus (first | (simp; done) | (simp [go_sem]; done))); simp only [go_sem, *]) | (refine zAK (s4) ?_ ?_; (focus (simp only [go_sem, *]; done)); simp only [go_sem, *])) | ((with_reducible refine And.intro ?_ ?_); focus omega) | (refine zAB hK ?_; clear hK K'; simp only [go_sem, *]) | (simp only [zAH, zAA, go_sem, *]))
  all_goals first | contradiction | skip
  refine ⟨[.agg [iV 4, iV s, iV o, iV 0, iV 0, iV 0, iV 0]], [some 0], [], ⟨by simp only [zAY, go_sem], trivial⟩, ?_⟩
  simp only [go_sem, zeroPlate, *]
 rw [if_neg k4]
 have k4' : (k == 4) = false := by rw [beq_eq_false_iff_ne]; exact k4
 by_cases k7 : k = 7
 ·rw [if_pos k7]
  subst k7
  have s3 := zDH d2 1 2 hl2 (by omega) (by omega)
  have hr3 := zCU (lo := 1) (hi := 2) (by omega) d2
  have hl3 : (zA5 1 2 d2).list.length ≤ 4294967296 := by unfold zA5; rw [zA2]; exact hl2
  generalize zBs 1 2 d2 = x at *
  generalize zA5 1 2 d2 = d3 at *
  have s4 := zNG ((s : Int) + x) (p.length : Int) (by omega) (by omega)
  have hw1 : IntKind.i64.wrap ((s : Int) + x) = (s : Int) + x := wrap_i64 (by omega) (by omega)
  generalize ((s : Int) + x) % (p.length : Int) = o at *
  simp only
  have sa := zEj d3 (zAL p (s : Int)) hl3 (by omega)
  have hla : (zA1 d3 (zAL p (s : Int))).2.list.length ≤ 4294967296 := by rw [zCd]; exact hl3
  generalize zA1 d3 (zAL p (s : Int)) = A at *
  obtain ⟨a, d4⟩ := A
  simp only at sa hla ⊢
  have sb := zEj d4 (zAL p (s : Int)) hla (by omega)
  generalize zA1 d4 (zAL p (s : Int)) = B at *
  obtain ⟨b, d5⟩ := B
  simp only at sb ⊢
  have sc := zIL b a
  by_cases hlt : b.lt a = true
  ·rw [if_pos hlt]
   rw [hlt] at sc
   clear hlt
   refine zAF Tryz.func23 rfl (fun E hE => ?_); simp only [go_sem, Tryz.ntmps23]
   repeat' (first | (show zAC ..; first | (refine Qr rfl ?_; try intro K' hK; try simp only [go_sem, *])) | (show Hold ..; first | refine Qh rfl ?_ | refine zAG rfl Tryz.mixed (by kernel_rfl) ?_ | (refine zAD rfl ⟨_, rfl, fun hb => ?_, fun hb => ?_⟩ <;> (have hc := hb; try simp only [go_sem] at hc)) | refine zAI rfl ?_) | (refine Qb ?_ ?_; focus kernel_rfl) | (show zAN ..; first | ((first | refine zAK (s4) ?_ ?_ | refine zAK (sc) ?_ ?_); (focus (simp only [go_sem, *]; done)); simp only [go_sem, *]) | (refine zAR [0] [] (s1) (by simp) ?_ ?_ (by simp) (.inl rfl) ?_ ?_ ?_; (focus (simp only [go_sem, *]; done)); (focus (simp only [go_sem, *]; done)); (focus (first | (simp; done) | (simp [go_sem]; done))); (focus (first | (simp; done) | (simp [go_sem]; done))); simp only [go_sem, *]) | (refine zAR [0] [] (s2) (by simp) ?_ ?_ (by simp) (.inl rfl) ?_ ?_ ?_; (focus (simp only [go_sem, *]; done)); (focus (simp only [go_sem, *]; done)); (focus (first | (simp; done) | (simp [go_sem]; done))); (focus (first | (simp; done) | (simp [go_sem]; done))); simp only [go_sem, *]) | (refine zAR [0] [] (s3) (by simp) ?_ ?_ (by simp) (.inl rfl) ?_ ?_ ?_; (focus (simp only [go_sem, *]; done)); (focus (simp only [go_sem, *]; done)); (focus (first | (simp; done) | (simp [go_sem]; done))); (focus (first | (simp; done) | (simp [go_sem]; done))); simp only [go_sem, *]) | (refine zAR [0] [] (sa) (by simp) ?_ ?_ (by simp) (.inl rfl) ?_ ?_ ?_; (focus (simp only [go_sem, *]; done)); (focus (simp only [go_sem, *]; done)); (focus (first | (simp; done) | (simp [go_sem]; done))); (focus (first | (simp; done) | (simp [go_sem]; done))); simp only [go_sem, *]) | (refine zAR [0] [] (sb) (by simp) ?_ ?_ (by simp) (.inl rfl) ?_ ?_ ?_; (focus (simp only [go_sem, *]; done)); (focus (simp only [go_sem, *]; done)); (focus (first | (simp; done) | (simp [go_sem]; done))); (focus (first | (simp; done) | (simp [go_sem]; done))); simp only [go_sem, *])) | ((with_reducible refine And.intro ?_ ?_); focus omega) | (refine zAB hK ?_; clear hK K'; simp only [go_sem, *]) | (simp only [zAH, zAA, go_sem, *]))
   all_goals first | contradiction | skip
   refine ⟨[.agg [iV 7, iV s, iV o, iV b.number, iV b.letter, iV a.number, iV a.letter]], [some 0], [], ⟨by simp only [zAY, go_sem], trivial⟩, ?_⟩
   simp only [go_sem, zeroPlate, *]
  ·rw [if_neg hlt]
   rw [Bool.not_eq_true] at hlt
   rw [hlt] at sc
   clear hlt
   refine zAF Tryz.func23 rfl (fun E hE => ?_); simp only [go_sem, Tryz.ntmps23]
   repeat' (first | (show zAC ..; first | (refine Qr rfl ?_; try intro K' hK; try simp only [go_sem, *])) | (show Hold ..; first | refine Qh rfl ?_ | refine zAG rfl Tryz.mixed (by kernel_rfl) ?_ | (refine zAD rfl ⟨_, rfl, fun hb => ?_, fun hb => ?_⟩ <;> (have hc := hb; try simp only [go_sem] at hc)) | refine zAI rfl ?_) | (refine Qb ?_ ?_; focus kernel_rfl) | (show zAN ..; first | ((first | refine zAK (s4) ?_ ?_ | refine zAK (sc) ?_ ?_); (focus (simp only [go_sem, *]; done)); simp only [go_sem, *]) | (refine zAR [0] [] (s1) (by simp) ?_ ?_ (by simp) (.inl rfl) ?_ ?_ ?_; (focus (simp only [go_sem, *]; done)); (focus (simp only [go_sem, *]; done)); (focus (first | (simp; done) | (simp [go_sem]; done))); (focus (first | (simp; done) | (simp [go_sem]; done))); simp only [go_sem, *]) | (refine zAR [0] [] (s2) (by simp) ?_ ?_ (by simp) (.inl rfl) ?_ ?_ ?_; (focus (simp only [go_sem, *]; done)); (focus (simp only [go_sem, *]; done)); (focus (first | (simp; done) | (simp [go_sem]; done))); (focus (first | (simp; done) | (simp [go_sem]; done))); simp only [go_sem, *]) | (refine zAR [0] [] (s3) (by simp) ?_ ?_ (by simp) (.inl rfl) ?_ ?_ ?_; (focus (simp only [go_sem, *]; done)); (focus (simp only [go_sem, *]; done)); (focus (first | (simp; done) | (simp [go_sem]; done))); (focus (first | (simp; done) | (simp [go_sem]; done))); simp only [go_sem, *]) | (refine zAR [0] [] (sa) (by simp) ?_ ?_ (by simp) (.inl rfl) ?_ ?_ ?_; (focus (simp only [go_sem, *]; done)); (focus (simp only [go_sem, *]; done)); (focus (first | (simp; done) | (simp [go_sem]; done))); (focus (first | (simp; done) | (simp [go_sem]; done))); simp only [go_sem, *]) | (refine zAR [0] [] (sb) (by simp) ?_ ?_ (by simp) (.inl rfl) ?_ ?_ ?_; (focus (simp only [go_sem, *]; done)); (focus (simp only [go_sem, *]; done)); (focus (first | (simp; done) | (simp [go_sem]; done))); (focus (first | (simp; done) | (simp [go_sem]; done))); simp only [go_sem, *])) | ((with_reducible refine And.intro ?_ ?_); focus omega) | (refine zAB hK ?_; clear hK K'; simp only [go_sem, *]) | (simp only [zAH, zAA, go_sem, *]))
   all_goals first | contradiction | skip
   refine ⟨[.agg [iV 7, iV s, iV o, iV a.number, iV a.letter, iV b.number, iV b.letter]], [some 0], [], ⟨by simp only [zAY, go_sem], trivial⟩, ?_⟩
   simp only [go_sem, zeroPlate, *]
 rw [if_neg k7]
 have k7' : (k == 7) = false := by rw [beq_eq_false_iff_ne]; exact k7
 by_cases k56 : k = 5 ∨ k = 6
 ·rw [if_pos k56]
  simp only
  have sa := zEj d2 (zAL p (s : Int)) hl2 (by omega)
  generalize zA1 d2 (zAL p (s : Int)) = A at *
  obtain ⟨a, d4⟩ := A
  simp only at sa ⊢
  rcases k56 with k5 | k6
  ·subst k5
   clear k4 k7
   refine zAF Tryz.func23 rfl (fun E hE => ?_); simp only [go_sem, Tryz.ntmps23]
   repeat' (first | (show zAC ..; first | (refine Qr rfl ?_; try intro K' hK; try simp only [go_sem, *])) | (show Hold ..; first | refine Qh rfl ?_ | refine zAG rfl Tryz.mixed (by kernel_rfl) ?_ | (refine zAD rfl ⟨_, rfl, fun hb => ?_, fun hb => ?_⟩ <;> (have hc := hb; try simp only [go_sem] at hc)) | refine zAI rfl ?_) | (refine Qb ?_ ?_; focus kernel_rfl) | (show zAN ..; first | (refine zAR [0] [] (s1) (by simp) ?_ ?_ (by simp) (.inl rfl) ?_ ?_ ?_; (focus (simp only [go_sem, *]; done)); (focus (simp only [go_sem, *]; done)); (focus (first | (simp; done) | (simp [go_sem]; done))); (focus (first | (simp; done) | (simp [go_sem]; done))); simp only [go_sem, *]) | (refine zAR [0] [] (s2) (by simp) ?_ ?_ (by simp) (.inl rfl) ?_ ?_ ?_; (focus (simp only [go_sem, *]; done)); (focus (simp only [go_sem, *]; done)); (focus (first | (simp; done) | (simp [go_sem]; done))); (focus (first | (simp; done) | (simp [go_sem]; done))); simp only [go_sem, *]) | (refine zAR [0] [] (sa) (by simp) ?_ ?_ (by simp) (.inl rfl) ?_ ?_ ?_; (focus (simp only [go_sem, *]; done)); (focus (simp only [go_sem, *]; done)); (focus (first | (simp; done) | (simp [go_sem]; done))); (focus (first | (simp; done) | (simp [go_sem]; done))); simp only [go_sem, *])) | ((with_reducible refine And.intro ?_ ?_); focus omega) | (refine zAB hK ?_; clear hK K'; simp only [go_sem, *]) | (simp only [zAH, zAA, go_sem, *]))
   all_goals first | contradiction | skip
   refine ⟨[.agg [iV 5, iV s, iV 0, iV a.number, iV a.letter, iV 0, iV 0]], [some 0], [], ⟨by simp only [zAY, go_sem], trivial⟩, ?_⟩
   simp only [go_sem, zeroPlate, *]
  ·subst k6
   clear k4 k7
   refine zAF Tryz.func23 rfl (fun E hE => ?_); simp only [go_sem, Tryz.ntmps23]
   repeat' (first | (show zAC ..; first | (refine Qr rfl ?_; try intro K' hK; try simp only [go_sem, *])) | (show Hold ..; first | refine Qh rfl ?_ | refine zAG rfl Tryz.mixed (by kernel_rfl) ?_ | (refine zAD rfl ⟨_, rfl, fun hb => ?_, fun hb => ?_⟩ <;> (have hc := hb; try simp only [go_sem] at hc)) | refine zAI rfl ?_) | (refine Qb ?_ ?_; focus kernel_rfl) | (show zAN ..; first | (refine zAR [0] [] (s1) (by simp) ?_ ?_ (by simp) (.inl rfl) ?_ ?_ ?_; (focus (simp only [go_sem, *]; done)); (focus (simp only [go_sem, *]; done)); (focus (first | (simp; done) | (simp [go_sem]; done))); (focus (first | (simp; done) | (simp [go_sem]; done))); simp only [go_sem, *]) | (refine zAR [0] [] (s2) (by simp) ?_ ?_ (by simp) (.inl rfl) ?_ ?_ ?_; (focus (simp only [go_sem, *]; done)); (focus (simp only [go_sem, *]; done)); (focus (first | (simp; done) | (simp [go_sem]; done))); (focus (first | (simp; done) | (simp [go_sem]; done))); simp only [go_sem, *]) | (refine zAR [0] [] (sa) (by simp) ?_ ?_ (by simp) (.inl rfl) ?_ ?_ ?_; (focus (simp only [go_sem, *]; done)); (focus (simp only [go_sem, *]; done)); (focus (first | (simp; done) | (simp [go_sem]; done))); (focus (first | (simp; done) | (simp [go_sem]; done))); simp only [go_sem, *])) | ((with_reducible refine And.intro ?_ ?_); focus omega) | (refine zAB hK ?_; clear hK K'; simp only [go_sem, *]) | (simp only [zAH, zAA, go_sem, *]))
   all_goals first | contradiction | skip
   refine ⟨[.agg [iV 6, iV s, iV 0, iV a.number, iV a.letter, iV 0, iV 0]], [some 0], [], ⟨by simp only [zAY, go_sem], trivial⟩, ?_⟩
   simp only [go_sem, zeroPlate, *]
 ·rw [if_neg k56]
  have k5' : (k == 5) = false := by rw [beq_eq_false_iff_ne]; omega
  have k6' : (k == 6) = false := by rw [beq_eq_false_iff_ne]; omega
  clear k4 k7 k56
  refine zAF Tryz.func23 rfl (fun E hE => ?_); simp only [go_sem, Tryz.ntmps23]
  repeat' (first | (show zAC ..; first | (refine Qr rfl ?_; try intro K' hK; try simp only [go_sem, *])) | (show Hold ..; first | refine Qh rfl ?_ | refine zAG rfl Tryz.mixed (by kernel_rfl) ?_ | (refine zAD rfl ⟨_, rfl, fun hb => ?_, fun hb => ?_⟩ <;> (have hc := hb; try simp only [go_sem] at hc)) | refine zAI rfl ?_) | (refine Qb ?_ ?_; focus kernel_rfl) | (show zAN ..; first | (refine zAR [0] [] (s1) (by simp) ?_ ?_ (by simp) (.inl rfl) ?_ ?_ ?_; (focus (simp only [go_sem, *]; done)); (focus (simp only [go_sem, *]; done)); (focus (first | (simp; done) | (simp [go_sem]; done))); (focus (first | (simp; done) | (simp [go_sem]; done))); simp only [go_sem, *]) | (refine zAR [0] [] (s2) (by simp) ?_ ?_ (by simp) (.inl rfl) ?_ ?_ ?_; (focus (simp only [go_sem, *]; done)); (focus (simp only [go_sem, *]; done)); (focus (first | (simp; done) | (simp [go_sem]; done))); (focus (first | (simp; done) | (simp [go_sem]; done))); simp only [go_sem, *])) | ((with_reducible refine And.intro ?_ ?_); focus omega) | (refine zAB hK ?_; clear hK K'; simp only [go_sem, *]) | (simp only [zAH, zAA, go_sem, *]))
  all_goals first | contradiction | skip
  refine ⟨[.agg [iV k, iV s, iV 0, iV 0, iV 0, iV 0, iV 0]], [some 0], [], ⟨by simp only [zAY, go_sem], trivial⟩, ?_⟩
  simp only [go_sem, zeroPlate, *]
end Go.Abs

namespace Go.Abs
open Go Go.Proofs
attribute [local irreducible] zAC Hold zAN
def AtH (x : House) (acc : List House) (j : Nat) : Prop := ∀ m, m < j → (acc.getD m default).lt x = true
theorem AtH.next {x : House} {acc : List House} {j : Nat} (h : AtH x acc j) (hx : (acc.getD j default).lt x = true) : AtH x acc (j + 1) := fun m hm => by
 rcases Nat.lt_succ_iff_lt_or_eq.1 hm with h1 | rfl
 ·exact h m h1
 ·exact hx
def SoP (l : List House) (i : Nat) (acc R : List House) : Prop := (l.drop i).foldl (fun out x => insH x out) acc = R ∧ acc.length ≤ i
theorem SoP.next {l : List House} {i : Nat} {acc R : List House} (h : SoP l i acc R) (hi : i < l.length) : SoP l (i + 1) (insH (l.getD i default) acc) R := by
 obtain ⟨h1, h2⟩ := h
 rw [zAS hi, List.foldl_cons] at h1
 exact ⟨h1, by have := zG4 (x := l.getD i default) (l := acc); omega⟩
theorem zEk (l : List House) (hl : l.length ≤ 4294967296) : Spec Tryz.prog 64 [.list (l.map House.enc)] [] (.list ((zA8 l).map House.enc)) [] := by
 have h0 : SoP l 0 [] (zA8 l) := ⟨rfl, by simp⟩
 generalize zA8 l = R at *
 refine zAF Tryz.func64 rfl (fun E hE => ?_); simp only [go_sem, Tryz.ntmps64]
 repeat' (first | (show zAC ..; first | (refine Qr rfl ?_; try intro K' hK; try simp only [go_sem, *]) | (refine Qi rfl rfl rfl rfl (fun hb K' hK => ?_) (fun hb => ?_) <;> (have hc := hb; try simp only [go_sem] at hc; simp only [go_sem, *]))) | (show Hold ..; first | refine Qh rfl ?_ | refine zAG rfl Tryz.mixed (by kernel_rfl) ?_ | (refine zAD rfl ⟨_, rfl, fun hb => ?_, fun hb => ?_⟩ <;> (have hc := hb; try simp only [go_sem] at hc)) | refine zAI rfl ?_) | (refine Qb ?_ ?_; focus kernel_rfl) | ((with_reducible refine And.intro ?_ ?_); focus omega) | (refine zAB hK ?_; clear hK K'; simp only [go_sem, *]) | (simp only [zAH, zAA, go_sem, *]))
 refine zAQ rfl (fun zn zN zenv zAs => ∃ (i : Nat) (acc : List House), zn = (l.length) - i ∧ i ≤ (l.length) ∧ (SoP l i acc R) ∧ zN = 60 ∧ zenv = [(4, iV i), (3, .own 0 3 0 acc.length), (0, .list (l.map House.enc))] ∧ zAs = [.row 3 (acc.map House.enc)]) (l.length) ⟨[none], [], _, _, _, (by (simp only [Weak, go_sem, List.map_append, List.map_set, *] <;> (try simp (disch := omega) only [zAE]) <;> (try simp) <;> (try omega))), 0, [], (by simp), (by simp), (by exact h0), rfl, rfl, rfl⟩ ?_; rintro _ _ _ _ ⟨i, acc, rfl, hi, hP, rfl, rfl, rfl⟩
 clear h0
 by_cases hi2 : i < l.length
 ·have hnx := hP.next hi2
  have hal := hP.2
  clear hP
  repeat' (first | (show zAC ..; first | (refine Qr rfl ?_; try intro K' hK; try simp only [go_sem, *]) | (refine Qi rfl rfl rfl rfl (fun hb K' hK => ?_) (fun hb => ?_) <;> (have hc := hb; try simp only [go_sem] at hc; simp only [go_sem, *]))) | (show Hold ..; first | refine Qh rfl ?_ | refine zAG rfl Tryz.mixed (by kernel_rfl) ?_ | (refine zAD rfl ⟨_, rfl, fun hb => ?_, fun hb => ?_⟩ <;> (have hc := hb; try simp only [go_sem] at hc)) | refine zAI rfl ?_) | (refine Qb ?_ ?_; focus kernel_rfl) | ((with_reducible refine And.intro ?_ ?_); focus omega) | (refine zAB hK ?_; clear hK K'; simp only [go_sem, *]) | (simp only [zAH, zAA, go_sem, *]))
  generalize hx : l.getD i default = x at *
  have hxl : ∀ d, (l.map House.enc).getD i d = x.enc := fun d => by rw [← hx]; exact zIp hi2
  refine zAQ rfl (fun zn zN zenv zAs => ∃ (j : Nat), zn = (acc.length) - j ∧ j ≤ (acc.length) ∧ (AtH x acc j) ∧ zN = 60 ∧ zenv = [(5, iV j), (4, iV i), (3, .own 0 3 0 acc.length), (0, .list (l.map House.enc))] ∧ zAs = [.row 3 (acc.map House.enc)]) (acc.length) ⟨[some 0], [], _, _, _, (by (simp only [Weak, go_sem, List.map_append, List.map_set, *] <;> (try simp (disch := omega) only [zAE]) <;> (try simp) <;> (try omega))), 0, (by simp), (by simp), (by exact fun m hm => absurd hm (by omega)), rfl, rfl, rfl⟩ ?_; rintro _ _ _ _ ⟨j, rfl, hj, hJ, rfl, rfl, rfl⟩
  have hmn : min j acc.length = j := by omega
  have hl2 : j + (acc.length - j + 1) = j + 1 + (acc.length - j) := by omega
  have hdl2 : (List.drop j (List.map House.enc acc)).length = acc.length - j := by simp
  have htd : List.take (acc.length - j) (List.drop j (List.map House.enc acc)) = List.drop j (List.map House.enc acc) := List.take_of_length_le (by simp)
  by_cases hj2 : j < acc.length
  ·have sb := zMg (acc.getD j default) x
   by_cases hlt : (acc.getD j default).lt x = true
   ·rw [hlt] at sb
    repeat' (first | (show zAC ..; first | (refine Qr rfl ?_; try intro K' hK; try simp only [go_sem, *]) | (refine Qi rfl rfl rfl rfl (fun hb K' hK => ?_) (fun hb => ?_) <;> (have hc := hb; try simp only [go_sem] at hc; simp only [go_sem, *]))) | (show Hold ..; first | refine Qh rfl ?_ | refine zAG rfl Tryz.mixed (by kernel_rfl) ?_ | (refine zAD rfl ⟨_, rfl, fun hb => ?_, fun hb => ?_⟩ <;> (have hc := hb; try simp only [go_sem] at hc)) | refine zAI rfl ?_) | (refine Qb ?_ ?_; focus kernel_rfl) | (show zAN ..; first | (refine zAK (sb) ?_ ?_; (focus (simp only [go_sem, *]; done)); simp only [go_sem, *])) | ((with_reducible refine And.intro ?_ ?_); focus omega) | (refine zAB hK ?_; clear hK K'; simp only [go_sem, *]) | (simp only [zAH, zAA, go_sem, *]))
    all_goals first | contradiction | skip
    refine ⟨_, (by omega), [some 0], [], _, _, _, (by (simp only [Weak, go_sem, List.map_append, List.map_set, *] <;> (try simp (disch := omega) only [zAE]) <;> (try simp) <;> (try omega))), j + 1, rfl, (by omega), (by exact hJ.next hlt), rfl, rfl, rfl⟩
   ·rw [Bool.not_eq_true] at hlt
    rw [hlt] at sb
    have hin := zIw (by omega) hJ (fun _ => hlt)
    by_cases heq : acc.getD j default = x
    ·rw [if_pos ⟨hj2, heq⟩] at hin
     rw [hin] at hnx
     clear hin
     have hne : (decide (acc.getD j default = x)) = true := by simpa using heq
     clear heq
     repeat' (first | (show zAC ..; first | (refine Qr rfl ?_; try intro K' hK; try simp only [go_sem, *]) | (refine Qi rfl rfl rfl rfl (fun hb K' hK => ?_) (fun hb => ?_) <;> (have hc := hb; try simp only [go_sem] at hc; simp only [go_sem, *]))) | (show Hold ..; first | refine Qh rfl ?_ | refine zAG rfl Tryz.mixed (by kernel_rfl) ?_ | (refine zAD rfl ⟨_, rfl, fun hb => ?_, fun hb => ?_⟩ <;> (have hc := hb; try simp only [go_sem] at hc)) | refine zAI rfl ?_) | (with_reducible (show (∀ _ : AV, _ → _) ∧ _); refine And.intro ?_ ?_; (focus (intro y hy; first | (obtain ⟨z, _, rfl⟩ := List.mem_map.1 (hy); simp [go_sem]; done) | (obtain ⟨z, _, rfl⟩ := List.mem_map.1 (List.mem_of_mem_take hy); simp [go_sem]; done) | (obtain ⟨z, _, rfl⟩ := List.mem_map.1 (List.mem_of_mem_drop hy); simp [go_sem]; done) | (obtain ⟨z, _, rfl⟩ := List.mem_map.1 (List.mem_of_mem_drop (List.mem_of_mem_take hy)); simp [go_sem]; done)))) | (refine Qb ?_ ?_; focus kernel_rfl) | (show zAN ..; first | (refine zAK (sb) ?_ ?_; (focus (simp only [go_sem, *]; done)); simp only [go_sem, *])) | ((with_reducible refine And.intro ?_ ?_); focus omega) | (refine zAB hK ?_; clear hK K'; simp only [go_sem, *]) | (simp only [zAH, zAA, go_sem, *]))
     all_goals first | contradiction | skip
     refine ⟨_, (by omega), [some 0], [], _, _, _, (by (simp only [Weak, go_sem, List.map_append, List.map_set, *] <;> (try simp (disch := omega) only [zAE]) <;> (try simp) <;> (try omega))), i + 1, acc, rfl, (by omega), (by exact hnx), rfl, rfl, rfl⟩
    ·rw [if_neg (fun h => heq h.2)] at hin
     rw [hin] at hnx
     clear hin
     have hne : (decide (acc.getD j default = x)) = false := by simpa using heq
     clear heq
     repeat' (first | (show zAC ..; first | (refine Qr rfl ?_; try intro K' hK; try simp only [go_sem, *]) | (refine Qi rfl rfl rfl rfl (fun hb K' hK => ?_) (fun hb => ?_) <;> (have hc := hb; try simp only [go_sem] at hc; simp only [go_sem, *]))) | (show Hold ..; first | refine Qh rfl ?_ | refine zAG rfl Tryz.mixed (by kernel_rfl) ?_ | (refine zAD rfl ⟨_, rfl, fun hb => ?_, fun hb => ?_⟩ <;> (have hc := hb; try simp only [go_sem] at hc)) | refine zAI rfl ?_) | (with_reducible (show (∀ _ : AV, _ → _) ∧ _); refine And.intro ?_ ?_; (focus (intro y hy; first | (obtain ⟨z, _, rfl⟩ := List.mem_map.1 (hy); simp [go_sem]; done) | (obtain ⟨z, _, rfl⟩ := List.mem_map.1 (List.mem_of_mem_take hy); simp [go_sem]; done) | (obtain ⟨z, _, rfl⟩ := List.mem_map.1 (List.mem_of_mem_drop hy); simp [go_sem]; done) | (obtain ⟨z, _, rfl⟩ := List.mem_map.1 (List.mem_of_mem_drop (List.mem_of_mem_take hy)); simp [go_sem]; done)))) | (refine Qb ?_ ?_; focus kernel_rfl) | (show zAN ..; first | (refine zAK (sb) ?_ ?_; (focus (simp only [go_sem, *]; done)); simp only [go_sem, *])) | ((with_reducible refine And.intro ?_ ?_); focus omega) | (refine zAB hK ?_; clear hK K'; simp only [go_sem, *]) | (simp only [zAH, zAA, go_sem, *]))
     all_goals first | contradiction | skip
     refine ⟨_, (by omega), [some 5], [], _, _, _, (by (simp only [Weak, go_sem, List.map_append, List.map_set, *] <;> (try simp (disch := omega) only [zAE]) <;> (try simp) <;> (try omega))), i + 1, acc.take j ++ x :: acc.drop j, rfl, (by omega), (by exact hnx), rfl, rfl, rfl⟩
  ·have hin := zIw (x := x) (l := acc) (k := j) (by omega) hJ (fun h => absurd h hj2)
   rw [if_neg (fun h => hj2 h.1)] at hin
   rw [hin] at hnx
   clear hin
   repeat' (first | (show zAC ..; first | (refine Qr rfl ?_; try intro K' hK; try simp only [go_sem, *]) | (refine Qi rfl rfl rfl rfl (fun hb K' hK => ?_) (fun hb => ?_) <;> (have hc := hb; try simp only [go_sem] at hc; simp only [go_sem, *]))) | (show Hold ..; first | refine Qh rfl ?_ | refine zAG rfl Tryz.mixed (by kernel_rfl) ?_ | (refine zAD rfl ⟨_, rfl, fun hb => ?_, fun hb => ?_⟩ <;> (have hc := hb; try simp only [go_sem] at hc)) | refine zAI rfl ?_) | (with_reducible (show (∀ _ : AV, _ → _) ∧ _); refine And.intro ?_ ?_; (focus (intro y hy; first | (obtain ⟨z, _, rfl⟩ := List.mem_map.1 (hy); simp [go_sem]; done) | (obtain ⟨z, _, rfl⟩ := List.mem_map.1 (List.mem_of_mem_take hy); simp [go_sem]; done) | (obtain ⟨z, _, rfl⟩ := List.mem_map.1 (List.mem_of_mem_drop hy); simp [go_sem]; done) | (obtain ⟨z, _, rfl⟩ := List.mem_map.1 (List.mem_of_mem_drop (List.mem_of_mem_take hy)); simp [go_sem]; done)))) | (refine Qb ?_ ?_; focus kernel_rfl) | ((with_reducible refine And.intro ?_ ?_); focus omega) | (refine zAB hK ?_; clear hK K'; simp only [go_sem, *]) | (simp only [zAH, zAA, go_sem, *]))
   all_goals first | contradiction | skip
   refine ⟨_, (by omega), [some 5], [], _, _, _, (by (simp only [Weak, go_sem, List.map_append, List.map_set, *] <;> (try simp (disch := omega) only [zAE]) <;> (try simp) <;> (try omega))), i + 1, acc.take j ++ x :: acc.drop j, rfl, (by omega), (by exact hnx), rfl, rfl, rfl⟩
 ·obtain ⟨h1, h2⟩ := hP
  rw [zAX (by omega)] at h1
  have h3 : acc = R := h1
  subst h3
  clear h1 h2
  repeat' (first | (show zAC ..; first | (refine Qr rfl ?_; try intro K' hK; try simp only [go_sem, *]) | (refine Qi rfl rfl rfl rfl (fun hb K' hK => ?_) (fun hb => ?_) <;> (have hc := hb; try simp only [go_sem] at hc; simp only [go_sem, *]))) | (show Hold ..; first | refine Qh rfl ?_ | refine zAG rfl Tryz.mixed (by kernel_rfl) ?_ | (refine zAD rfl ⟨_, rfl, fun hb => ?_, fun hb => ?_⟩ <;> (have hc := hb; try simp only [go_sem] at hc)) | refine zAI rfl ?_) | (refine Qb ?_ ?_; focus kernel_rfl) | ((with_reducible refine And.intro ?_ ?_); focus omega) | (refine zAB hK ?_; clear hK K'; simp only [go_sem, *]) | (simp only [zAH, zAA, go_sem, *]))
  refine ⟨[_], [], [0], ⟨rfl, trivial⟩, ?_⟩
  simp only [go_sem, *]
end Go.Abs

namespace Go.Abs
open Go Go.Proofs
attribute [local irreducible] zAC Hold zAN
def bkt (L : List House) (i s : Nat) : List Plate := ((L.take i).filter (fun h => h.street == (s : Int))).map House.plate
theorem zGO {L : List House} {i s : Nat} (h : i < L.length) (e : (L.getD i default).street = (s : Int)) : bkt L (i + 1) s = bkt L i s ++ [(L.getD i default).plate] := by
 have q : ((L.getD i default).street == (s : Int)) = true := by rw [beq_iff_eq]; exact e
 unfold bkt
 rw [zAa h, List.filter_append, List.map_append, List.filter_cons, if_pos q]; rfl
theorem zC4 {L : List House} {i s : Nat} (h : i < L.length) (e : (L.getD i default).street ≠ (s : Int)) : bkt L (i + 1) s = bkt L i s := by
 have q : ¬ ((L.getD i default).street == (s : Int)) = true := by rw [beq_iff_eq]; exact e
 unfold bkt
 rw [zAa h, List.filter_append, List.map_append, List.filter_cons, if_neg q]; simp
theorem zIe (L : List House) (i s : Nat) : (bkt L i s).length ≤ L.length := by
 unfold bkt; rw [List.length_map]
 exact Nat.le_trans (List.length_filter_le _ _) (by simp; omega)
theorem zET {L : List House} {i s : Nat} (h : L.length ≤ i) : bkt L i s = (L.filter (fun h => h.street == (s : Int))).map House.plate := by
 unfold bkt; rw [List.take_of_length_le h]
theorem zLz (l : List House) (hst : ∀ z, z ∈ l → 0 ≤ z.street ∧ z.street < 1) (hl : l.length ≤ 4294967296) : Spec Tryz.prog 127 [.list (l.map House.enc), iV 1] [] (zAO (laid l 1)) [] := by
 have rz : List.replicate 1 (AV.raw (Value.slice none 0 0)) = [AV.raw (Value.slice none 0 0)] := rfl
 have hv : IntKind.i64.wrap 1 = (1 : Int) := wrap_i64 (by omega) (by omega)
 have ss := zEk l hl
 have hsl : (zA8 l).length ≤ l.length := by have := zD3 l []; simpa [zA8] using this
 have hsm : ∀ z, z ∈ zA8 l → 0 ≤ z.street ∧ z.street < 1 := fun z hz => hst z (mem_sortH.1 hz)
 have he : laid l 1 = [((zA8 l).filter (fun h => h.street == ((0 : Nat) : Int))).map House.plate] := by simp [laid, List.range_succ]
 rw [he]
 clear he hst
 generalize zA8 l = L at *
 have hlb := fun i s => zIe L i s
 have z0 : bkt L 0 0 = [] := rfl
 have z1 : bkt L 0 1 = [] := rfl
 have z2 : bkt L 0 2 = [] := rfl
 refine zAF Tryz.func127 rfl (fun E hE => ?_); simp only [go_sem, Tryz.ntmps127]
 repeat' (first | (show zAC ..; first | (refine Qr rfl ?_; try intro K' hK; try simp only [go_sem, *])) | (show Hold ..; first | refine Qh rfl ?_ | refine zAG rfl Tryz.mixed (by kernel_rfl) ?_ | (refine zAD rfl ⟨_, rfl, fun hb => ?_, fun hb => ?_⟩ <;> (have hc := hb; try simp only [go_sem] at hc)) | refine zAI rfl ?_) | (refine Qb ?_ ?_; focus kernel_rfl) | (show zAN ..; first | (refine zAK (ss) ?_ ?_; (focus (simp only [go_sem, *]; done)); simp only [go_sem, *])) | ((with_reducible refine And.intro ?_ ?_); focus omega) | (refine zAB hK ?_; clear hK K'; simp only [go_sem, *]) | (simp only [zAH, zAA, go_sem, *]))
 refine zAQ rfl (fun zn zN zenv zAs => ∃ (i : Nat), zn = (L.length) - i ∧ i ≤ (L.length) ∧ (NoP i) ∧ zN = 43 ∧ zenv = [(6, iV i), (5, .ptr 1 0), (4, .ptr 0 0), (0, .list (L.map House.enc))] ∧ zAs = [.box [nilV], .box [.own 2 1 0 1], .box [.own 3 2 0 (bkt L i 0).length], .row 2 ((bkt L i 0).map Plate.enc)]) (L.length) ⟨[some 0, some 2, some 1, none], [], _, _, _, (by (simp only [Weak, go_sem, List.map_append, List.map_set, *] <;> (try simp (disch := omega) only [zAE]) <;> (try simp) <;> (try omega))), 0, (by simp), (by simp), (by trivial), rfl, rfl, rfl⟩ ?_; rintro _ _ _ _ ⟨i, rfl, hi, hP, rfl, rfl, rfl⟩
 have hb0 := hlb i 0
 clear hlb z0 z1 z2
 by_cases hi2 : i < L.length
 ·have hz := hsm _ (zAT hi2)
  rcases (by omega : (L.getD i default).street = 0) with hs0
  ·have e0 := zGO (s := 0) hi2 (by rw [hs0]; rfl)
   repeat' (first | (show zAC ..; first | (refine Qr rfl ?_; try intro K' hK; try simp only [go_sem, *])) | (show Hold ..; first | refine Qh rfl ?_ | refine zAG rfl Tryz.mixed (by kernel_rfl) ?_ | (refine zAD rfl ⟨_, rfl, fun hb => ?_, fun hb => ?_⟩ <;> (have hc := hb; try simp only [go_sem] at hc)) | refine zAI rfl ?_) | (with_reducible (show (∀ _ : AV, _ → _) ∧ _); refine And.intro ?_ ?_; (focus (intro y hy; first | (obtain ⟨z, _, rfl⟩ := List.mem_map.1 (hy); simp [go_sem]; done) | (obtain ⟨z, _, rfl⟩ := List.mem_map.1 (List.mem_of_mem_take hy); simp [go_sem]; done) | (obtain ⟨z, _, rfl⟩ := List.mem_map.1 (List.mem_of_mem_drop hy); simp [go_sem]; done) | (obtain ⟨z, _, rfl⟩ := List.mem_map.1 (List.mem_of_mem_drop (List.mem_of_mem_take hy)); simp [go_sem]; done)))) | (refine Qb ?_ ?_; focus kernel_rfl) | ((with_reducible refine And.intro ?_ ?_); focus omega) | (refine zAB hK ?_; clear hK K'; simp only [go_sem, *]) | (simp only [zAH, zAA, go_sem, *]))
   all_goals first | contradiction | skip
   refine ⟨_, (by omega), [some 0, some 1, some 2, some 5], [], _, _, _, (by (simp only [Weak, go_sem, List.map_append, List.map_set, *] <;> (try simp (disch := omega) only [zAE]) <;> (try simp) <;> (try omega))), i + 1, rfl, (by omega), (by trivial), rfl, rfl, rfl⟩
 ·have e0 := zET (L := L) (i := i) (s := 0) (by omega)
  repeat' (first | (show zAC ..; first | (refine Qr rfl ?_; try intro K' hK; try simp only [go_sem, *])) | (show Hold ..; first | refine Qh rfl ?_ | refine zAG rfl Tryz.mixed (by kernel_rfl) ?_ | (refine zAD rfl ⟨_, rfl, fun hb => ?_, fun hb => ?_⟩ <;> (have hc := hb; try simp only [go_sem] at hc)) | refine zAI rfl ?_) | (refine Qb ?_ ?_; focus kernel_rfl) | ((with_reducible refine And.intro ?_ ?_); focus omega) | (refine zAB hK ?_; clear hK K'; simp only [go_sem, *]) | (simp only [zAH, zAA, go_sem, *]))
  refine ⟨[.agg [.own 2 1 0 1]], [], [2, 3], ⟨by simp only [zAY, go_sem], trivial⟩, ?_⟩
  simp only [go_sem, *]
  try simp [List.take_of_length_le]
theorem zL0 (l : List House) (hst : ∀ z, z ∈ l → 0 ≤ z.street ∧ z.street < 2) (hl : l.length ≤ 4294967296) : Spec Tryz.prog 127 [.list (l.map House.enc), iV 2] [] (zAO (laid l 2)) [] := by
 have rz : List.replicate 2 (AV.raw (Value.slice none 0 0)) = [AV.raw (Value.slice none 0 0), AV.raw (Value.slice none 0 0)] := rfl
 have hv : IntKind.i64.wrap 2 = (2 : Int) := wrap_i64 (by omega) (by omega)
 have ss := zEk l hl
 have hsl : (zA8 l).length ≤ l.length := by have := zD3 l []; simpa [zA8] using this
 have hsm : ∀ z, z ∈ zA8 l → 0 ≤ z.street ∧ z.street < 2 := fun z hz => hst z (mem_sortH.1 hz)
 have he : laid l 2 = [((zA8 l).filter (fun h => h.street == ((0 : Nat) : Int))).map House.plate, ((zA8 l).filter (fun h => h.street == ((1 : Nat) : Int))).map House.plate] := by simp [laid, List.range_succ]
 rw [he]
 clear he hst
 generalize zA8 l = L at *
 have hlb := fun i s => zIe L i s
 have z0 : bkt L 0 0 = [] := rfl
 have z1 : bkt L 0 1 = [] := rfl
 have z2 : bkt L 0 2 = [] := rfl
 refine zAF Tryz.func127 rfl (fun E hE => ?_); simp only [go_sem, Tryz.ntmps127]
 repeat' (first | (show zAC ..; first | (refine Qr rfl ?_; try intro K' hK; try simp only [go_sem, *])) | (show Hold ..; first | refine Qh rfl ?_ | refine zAG rfl Tryz.mixed (by kernel_rfl) ?_ | (refine zAD rfl ⟨_, rfl, fun hb => ?_, fun hb => ?_⟩ <;> (have hc := hb; try simp only [go_sem] at hc)) | refine zAI rfl ?_) | (refine Qb ?_ ?_; focus kernel_rfl) | (show zAN ..; first | (refine zAK (ss) ?_ ?_; (focus (simp only [go_sem, *]; done)); simp only [go_sem, *])) | ((with_reducible refine And.intro ?_ ?_); focus omega) | (refine zAB hK ?_; clear hK K'; simp only [go_sem, *]) | (simp only [zAH, zAA, go_sem, *]))
 refine zAQ rfl (fun zn zN zenv zAs => ∃ (i : Nat), zn = (L.length) - i ∧ i ≤ (L.length) ∧ (NoP i) ∧ zN = 43 ∧ zenv = [(6, iV i), (5, .ptr 1 0), (4, .ptr 0 0), (0, .list (L.map House.enc))] ∧ zAs = [.box [nilV], .box [.own 2 1 0 2], .box [.own 3 2 0 (bkt L i 0).length, .own 4 2 0 (bkt L i 1).length], .row 2 ((bkt L i 0).map Plate.enc), .row 2 ((bkt L i 1).map Plate.enc)]) (L.length) ⟨[some 0, some 2, some 1, none, none], [], _, _, _, (by (simp only [Weak, go_sem, List.map_append, List.map_set, *] <;> (try simp (disch := omega) only [zAE]) <;> (try simp) <;> (try omega))), 0, (by simp), (by simp), (by trivial), rfl, rfl, rfl⟩ ?_; rintro _ _ _ _ ⟨i, rfl, hi, hP, rfl, rfl, rfl⟩
 have hb0 := hlb i 0
 have hb1 := hlb i 1
 clear hlb z0 z1 z2
 by_cases hi2 : i < L.length
 ·have hz := hsm _ (zAT hi2)
  rcases (by omega : (L.getD i default).street = 0 ∨ (L.getD i default).street = 1) with hs0 | hs0
  ·have e0 := zGO (s := 0) hi2 (by rw [hs0]; rfl)
   have e1 := zC4 (s := 1) hi2 (by rw [hs0]; decide)
   repeat' (first | (show zAC ..; first | (refine Qr rfl ?_; try intro K' hK; try simp only [go_sem, *])) | (show Hold ..; first | refine Qh rfl ?_ | refine zAG rfl Tryz.mixed (by kernel_rfl) ?_ | (refine zAD rfl ⟨_, rfl, fun hb => ?_, fun hb => ?_⟩ <;> (have hc := hb; try simp only [go_sem] at hc)) | refine zAI rfl ?_) | (with_reducible (show (∀ _ : AV, _ → _) ∧ _); refine And.intro ?_ ?_; (focus (intro y hy; first | (obtain ⟨z, _, rfl⟩ := List.mem_map.1 (hy); simp [go_sem]; done) | (obtain ⟨z, _, rfl⟩ := List.mem_map.1 (List.mem_of_mem_take hy); simp [go_sem]; done) | (obtain ⟨z, _, rfl⟩ := List.mem_map.1 (List.mem_of_mem_drop hy); simp [go_sem]; done) | (obtain ⟨z, _, rfl⟩ := List.mem_map.1 (List.mem_of_mem_drop (List.mem_of_mem_take hy)); simp [go_sem]; done)))) | (refine Qb ?_ ?_; focus kernel_rfl) | ((with_reducible refine And.intro ?_ ?_); focus omega) | (refine zAB hK ?_; clear hK K'; simp only [go_sem, *]) | (simp only [zAH, zAA, go_sem, *]))
   all_goals first | contradiction | skip
   refine ⟨_, (by omega), [some 0, some 1, some 2, some 6, some 4], [], _, _, _, (by (simp only [Weak, go_sem, List.map_append, List.map_set, *] <;> (try simp (disch := omega) only [zAE]) <;> (try simp) <;> (try omega))), i + 1, rfl, (by omega), (by trivial), rfl, rfl, rfl⟩
  ·have e0 := zC4 (s := 0) hi2 (by rw [hs0]; decide)
   have e1 := zGO (s := 1) hi2 (by rw [hs0]; rfl)
   repeat' (first | (show zAC ..; first | (refine Qr rfl ?_; try intro K' hK; try simp only [go_sem, *])) | (show Hold ..; first | refine Qh rfl ?_ | refine zAG rfl Tryz.mixed (by kernel_rfl) ?_ | (refine zAD rfl ⟨_, rfl, fun hb => ?_, fun hb => ?_⟩ <;> (have hc := hb; try simp only [go_sem] at hc)) | refine zAI rfl ?_) | (with_reducible (show (∀ _ : AV, _ → _) ∧ _); refine And.intro ?_ ?_; (focus (intro y hy; first | (obtain ⟨z, _, rfl⟩ := List.mem_map.1 (hy); simp [go_sem]; done) | (obtain ⟨z, _, rfl⟩ := List.mem_map.1 (List.mem_of_mem_take hy); simp [go_sem]; done) | (obtain ⟨z, _, rfl⟩ := List.mem_map.1 (List.mem_of_mem_drop hy); simp [go_sem]; done) | (obtain ⟨z, _, rfl⟩ := List.mem_map.1 (List.mem_of_mem_drop (List.mem_of_mem_take hy)); simp [go_sem]; done)))) | (refine Qb ?_ ?_; focus kernel_rfl) | ((with_reducible refine And.intro ?_ ?_); focus omega) | (refine zAB hK ?_; clear hK K'; simp only [go_sem, *]) | (simp only [zAH, zAA, go_sem, *]))
   all_goals first | contradiction | skip
   refine ⟨_, (by omega), [some 0, some 1, some 2, some 3, some 6], [], _, _, _, (by (simp only [Weak, go_sem, List.map_append, List.map_set, *] <;> (try simp (disch := omega) only [zAE]) <;> (try simp) <;> (try omega))), i + 1, rfl, (by omega), (by trivial), rfl, rfl, rfl⟩
 ·have e0 := zET (L := L) (i := i) (s := 0) (by omega)
  have e1 := zET (L := L) (i := i) (s := 1) (by omega)
  repeat' (first | (show zAC ..; first | (refine Qr rfl ?_; try intro K' hK; try simp only [go_sem, *])) | (show Hold ..; first | refine Qh rfl ?_ | refine zAG rfl Tryz.mixed (by kernel_rfl) ?_ | (refine zAD rfl ⟨_, rfl, fun hb => ?_, fun hb => ?_⟩ <;> (have hc := hb; try simp only [go_sem] at hc)) | refine zAI rfl ?_) | (refine Qb ?_ ?_; focus kernel_rfl) | ((with_reducible refine And.intro ?_ ?_); focus omega) | (refine zAB hK ?_; clear hK K'; simp only [go_sem, *]) | (simp only [zAH, zAA, go_sem, *]))
  refine ⟨[.agg [.own 2 1 0 2]], [], [2, 3, 4], ⟨by simp only [zAY, go_sem], trivial⟩, ?_⟩
  simp only [go_sem, *]
  try simp [List.take_of_length_le]
theorem zL1 (l : List House) (hst : ∀ z, z ∈ l → 0 ≤ z.street ∧ z.street < 3) (hl : l.length ≤ 4294967296) : Spec Tryz.prog 127 [.list (l.map House.enc), iV 3] [] (zAO (laid l 3)) [] := by
 have rz : List.replicate 3 (AV.raw (Value.slice none 0 0)) = [AV.raw (Value.slice none 0 0), AV.raw (Value.slice none 0 0), AV.raw (Value.slice none 0 0)] := rfl
 have hv : IntKind.i64.wrap 3 = (3 : Int) := wrap_i64 (by omega) (by omega)
 have ss := zEk l hl
 have hsl : (zA8 l).length ≤ l.length := by have := zD3 l []; simpa [zA8] using this
 have hsm : ∀ z, z ∈ zA8 l → 0 ≤ z.street ∧ z.street < 3 := fun z hz => hst z (mem_sortH.1 hz)
 have he : laid l 3 = [((zA8 l).filter (fun h => h.street == ((0 : Nat) : Int))).map House.plate, ((zA8 l).filter (fun h => h.street == ((1 : Nat) : Int))).map House.plate, ((zA8 l).filter (fun h => h.street == ((2 : Nat) : Int))).map House.plate] := by simp [laid, List.range_succ]
 rw [he]
 clear he hst
 generalize zA8 l = L at *
 have hlb := fun i s => zIe L i s
 have z0 : bkt L 0 0 = [] := rfl
 have z1 : bkt L 0 1 = [] := rfl
 have z2 : bkt L 0 2 = [] := rfl
 refine zAF Tryz.func127 rfl (fun E hE => ?_); simp only [go_sem, Tryz.ntmps127]
 repeat' (first | (show zAC ..; first | (refine Qr rfl ?_; try intro K' hK; try simp only [go_sem, *])) | (show Hold ..; first | refine Qh rfl ?_ | refine zAG rfl Tryz.mixed (by kernel_rfl) ?_ | (refine zAD rfl ⟨_, rfl, fun hb => ?_, fun hb => ?_⟩ <;> (have hc := hb; try simp only [go_sem] at hc)) | refine zAI rfl ?_) | (refine Qb ?_ ?_; focus kernel_rfl) | (show zAN ..; first | (refine zAK (ss) ?_ ?_; (focus (simp only [go_sem, *]; done)); simp only [go_sem, *])) | ((with_reducible refine And.intro ?_ ?_); focus omega) | (refine zAB hK ?_; clear hK K'; simp only [go_sem, *]) | (simp only [zAH, zAA, go_sem, *]))
 refine zAQ rfl (fun zn zN zenv zAs => ∃ (i : Nat), zn = (L.length) - i ∧ i ≤ (L.length) ∧ (NoP i) ∧ zN = 43 ∧ zenv = [(6, iV i), (5, .ptr 1 0), (4, .ptr 0 0), (0, .list (L.map House.enc))] ∧ zAs = [.box [nilV], .box [.own 2 1 0 3], .box [.own 3 2 0 (bkt L i 0).length, .own 4 2 0 (bkt L i 1).length, .own 5 2 0 (bkt L i 2).length], .row 2 ((bkt L i 0).map Plate.enc), .row 2 ((bkt L i 1).map Plate.enc), .row 2 ((bkt L i 2).map Plate.enc)]) (L.length) ⟨[some 0, some 2, some 1, none, none, none], [], _, _, _, (by (simp only [Weak, go_sem, List.map_append, List.map_set, *] <;> (try simp (disch := omega) only [zAE]) <;> (try simp) <;> (try omega))), 0, (by simp), (by simp), (by trivial), rfl, rfl, rfl⟩ ?_; rintro _ _ _ _ ⟨i, rfl, hi, hP, rfl, rfl, rfl⟩
 have hb0 := hlb i 0
 have hb1 := hlb i 1
 have hb2 := hlb i 2
 clear hlb z0 z1 z2
 by_cases hi2 : i < L.length
 ·have hz := hsm _ (zAT hi2)
  rcases (by omega : (L.getD i default).street = 0 ∨ (L.getD i default).street = 1 ∨ (L.getD i default).street = 2) with hs0 | hs0 | hs0
  ·have e0 := zGO (s := 0) hi2 (by rw [hs0]; rfl)
   have e1 := zC4 (s := 1) hi2 (by rw [hs0]; decide)
   have e2 := zC4 (s := 2) hi2 (by rw [hs0]; decide)
   repeat' (first | (show zAC ..; first | (refine Qr rfl ?_; try intro K' hK; try simp only [go_sem, *])) | (show Hold ..; first | refine Qh rfl ?_ | refine zAG rfl Tryz.mixed (by kernel_rfl) ?_ | (refine zAD rfl ⟨_, rfl, fun hb => ?_, fun hb => ?_⟩ <;> (have hc := hb; try simp only [go_sem] at hc)) | refine zAI rfl ?_) | (with_reducible (show (∀ _ : AV, _ → _) ∧ _); refine And.intro ?_ ?_; (focus (intro y hy; first | (obtain ⟨z, _, rfl⟩ := List.mem_map.1 (hy); simp [go_sem]; done) | (obtain ⟨z, _, rfl⟩ := List.mem_map.1 (List.mem_of_mem_take hy); simp [go_sem]; done) | (obtain ⟨z, _, rfl⟩ := List.mem_map.1 (List.mem_of_mem_drop hy); simp [go_sem]; done) | (obtain ⟨z, _, rfl⟩ := List.mem_map.1 (List.mem_of_mem_drop (List.mem_of_mem_take hy)); simp [go_sem]; done)))) | (refine Qb ?_ ?_; focus kernel_rfl) | ((with_reducible refine And.intro ?_ ?_); focus omega) | (refine zAB hK ?_; clear hK K'; simp only [go_sem, *]) | (simp only [zAH, zAA, go_sem, *]))
   all_goals first | contradiction | skip
   refine ⟨_, (by omega), [some 0, some 1, some 2, some 7, some 4, some 5], [], _, _, _, (by (simp only [Weak, go_sem, List.map_append, List.map_set, *] <;> (try simp (disch := omega) only [zAE]) <;> (try simp) <;> (try omega))), i + 1, rfl, (by omega), (by trivial), rfl, rfl, rfl⟩
  ·have e0 := zC4 (s := 0) hi2 (by rw [hs0]; decide)
   have e1 := zGO (s := 1) hi2 (by rw [hs0]; rfl)
   have e2 := zC4 (s := 2) hi2 (by rw [hs0]; decide)
   repeat' (first | (show zAC ..; first | (refine Qr rfl ?_; try intro K' hK; try simp only [go_sem, *])) | (show Hold ..; first | refine Qh rfl ?_ | refine zAG rfl Tryz.mixed (by kernel_rfl) ?_ | (refine zAD rfl ⟨_, rfl, fun hb => ?_, fun hb => ?_⟩ <;> (have hc := hb; try simp only [go_sem] at hc)) | refine zAI rfl ?_) | (with_reducible (show (∀ _ : AV, _ → _) ∧ _); refine And.intro ?_ ?_; (focus (intro y hy; first | (obtain ⟨z, _, rfl⟩ := List.mem_map.1 (hy); simp [go_sem]; done) | (obtain ⟨z, _, rfl⟩ := List.mem_map.1 (List.mem_of_mem_take hy); simp [go_sem]; done) | (obtain ⟨z, _, rfl⟩ := List.mem_map.1 (List.mem_of_mem_drop hy); simp [go_sem]; done) | (obtain ⟨z, _, rfl⟩ := List.mem_map.1 (List.mem_of_mem_drop (List.mem_of_mem_take hy)); simp [go_sem]; done)))) | (refine Qb ?_ ?_; focus kernel_rfl) | ((with_reducible refine And.intro ?_ ?_); focus omega) | (refine zAB hK ?_; clear hK K'; simp only [go_sem, *]) | (simp only [zAH, zAA, go_sem, *]))
   all_goals first | contradiction | skip
   refine ⟨_, (by omega), [some 0, some 1, some 2, some 3, some 7, some 5], [], _, _, _, (by (simp only [Weak, go_sem, List.map_append, List.map_set, *] <;> (try simp (disch := omega) only [zAE]) <;> (try simp) <;> (try omega))), i + 1, rfl, (by omega), (by trivial), rfl, rfl, rfl⟩
  ·have e0 := zC4 (s := 0) hi2 (by rw [hs0]; decide)
   have e1 := zC4 (s := 1) hi2 (by rw [hs0]; decide)
   have e2 := zGO (s := 2) hi2 (by rw [hs0]; rfl)
   repeat' (first | (show zAC ..; first | (refine Qr rfl ?_; try intro K' hK; try simp only [go_sem, *])) | (show Hold ..; first | refine Qh rfl ?_ | refine zAG rfl Tryz.mixed (by kernel_rfl) ?_ | (refine zAD rfl ⟨_, rfl, fun hb => ?_, fun hb => ?_⟩ <;> (have hc := hb; try simp only [go_sem] at hc)) | refine zAI rfl ?_) | (with_reducible (show (∀ _ : AV, _ → _) ∧ _); refine And.intro ?_ ?_; (focus (intro y hy; first | (obtain ⟨z, _, rfl⟩ := List.mem_map.1 (hy); simp [go_sem]; done) | (obtain ⟨z, _, rfl⟩ := List.mem_map.1 (List.mem_of_mem_take hy); simp [go_sem]; done) | (obtain ⟨z, _, rfl⟩ := List.mem_map.1 (List.mem_of_mem_drop hy); simp [go_sem]; done) | (obtain ⟨z, _, rfl⟩ := List.mem_map.1 (List.mem_of_mem_drop (List.mem_of_mem_take hy)); simp [go_sem]; done)))) | (refine Qb ?_ ?_; focus kernel_rfl) | ((with_reducible refine And.intro ?_ ?_); focus omega) | (refine zAB hK ?_; clear hK K'; simp only [go_sem, *]) | (simp only [zAH, zAA, go_sem, *]))
   all_goals first | contradiction | skip
   refine ⟨_, (by omega), [some 0, some 1, some 2, some 3, some 4, some 7], [], _, _, _, (by (simp only [Weak, go_sem, List.map_append, List.map_set, *] <;> (try simp (disch := omega) only [zAE]) <;> (try simp) <;> (try omega))), i + 1, rfl, (by omega), (by trivial), rfl, rfl, rfl⟩
 ·have e0 := zET (L := L) (i := i) (s := 0) (by omega)
  have e1 := zET (L := L) (i := i) (s := 1) (by omega)
  have e2 := zET (L := L) (i := i) (s := 2) (by omega)
  repeat' (first | (show zAC ..; first | (refine Qr rfl ?_; try intro K' hK; try simp only [go_sem, *])) | (show Hold ..; first | refine Qh rfl ?_ | refine zAG rfl Tryz.mixed (by kernel_rfl) ?_ | (refine zAD rfl ⟨_, rfl, fun hb => ?_, fun hb => ?_⟩ <;> (have hc := hb; try simp only [go_sem] at hc)) | refine zAI rfl ?_) | (refine Qb ?_ ?_; focus kernel_rfl) | ((with_reducible refine And.intro ?_ ?_); focus omega) | (refine zAB hK ?_; clear hK K'; simp only [go_sem, *]) | (simp only [zAH, zAA, go_sem, *]))
  refine ⟨[.agg [.own 2 1 0 3]], [], [2, 3, 4, 5], ⟨by simp only [zAY, go_sem], trivial⟩, ?_⟩
  simp only [go_sem, *]
  try simp [List.take_of_length_le]
end Go.Abs

namespace Go.Abs
open Go Go.Proofs
attribute [local irreducible] zAC Hold zAN
theorem zJ8 (p : Plan) (c : Change) (hp : p.length ≤ 4294967296) (h1 : betw c.kind 1 7 = false) : Spec Tryz.prog 132 [zAO p, c.enc] [] (.tup [iV 8, .agg [iV c.kind, iV c.street, iV 0, iV 0, iV 0, iV 0, iV 0]]) [] := by
 have hw : IntKind.i64.wrap ((p.length : Int) - 1) = (p.length : Int) - 1 := wrap_i64 (by omega) (by omega)
 have s1 := zAb c.kind 1 7
 rw [h1] at s1
 refine zAF Tryz.func132 rfl (fun E hE => ?_); simp only [go_sem, Tryz.ntmps132]
 repeat' (first | (show zAC ..; first | (refine Qr rfl ?_; try intro K' hK; try simp only [go_sem, *])) | (show Hold ..; first | refine Qh rfl ?_ | refine zAG rfl Tryz.mixed (by kernel_rfl) ?_ | (refine zAD rfl ⟨_, rfl, fun hb => ?_, fun hb => ?_⟩ <;> (have hc := hb; try simp only [go_sem] at hc)) | refine zAI rfl ?_) | (refine Qb ?_ ?_; focus kernel_rfl) | (show zAN ..; first | (refine zAK (s1) ?_ ?_; (focus (simp only [go_sem, *]; done)); simp only [go_sem, *])) | ((with_reducible refine And.intro ?_ ?_); focus omega) | (refine zAB hK ?_; clear hK K'; simp only [go_sem, *]) | (simp only [zAH, zAA, go_sem, *]))
 all_goals first | contradiction | skip
 refine ⟨[iV 8, .agg [iV c.kind, iV c.street, iV 0, iV 0, iV 0, iV 0, iV 0]], [], [], ⟨rfl, by simp only [zAY, go_sem], trivial⟩, ?_⟩
 simp only [go_sem, *]
theorem zIA (p : Plan) (c : Change) (hp : p.length ≤ 4294967296) (h1 : betw c.kind 1 7 = true) (h2 : betw c.street 0 ((p.length : Int) - 1) = false) : Spec Tryz.prog 132 [zAO p, c.enc] [] (.tup [iV 3, .agg [iV c.kind, iV c.street, iV 0, iV 0, iV 0, iV 0, iV 0]]) [] := by
 have hw : IntKind.i64.wrap ((p.length : Int) - 1) = (p.length : Int) - 1 := wrap_i64 (by omega) (by omega)
 have s1 := zAb c.kind 1 7
 rw [h1] at s1
 have s2 := zAb c.street 0 ((p.length : Int) - 1)
 rw [h2] at s2
 refine zAF Tryz.func132 rfl (fun E hE => ?_); simp only [go_sem, Tryz.ntmps132]
 repeat' (first | (show zAC ..; first | (refine Qr rfl ?_; try intro K' hK; try simp only [go_sem, *])) | (show Hold ..; first | refine Qh rfl ?_ | refine zAG rfl Tryz.mixed (by kernel_rfl) ?_ | (refine zAD rfl ⟨_, rfl, fun hb => ?_, fun hb => ?_⟩ <;> (have hc := hb; try simp only [go_sem] at hc)) | refine zAI rfl ?_) | (refine Qb ?_ ?_; focus kernel_rfl) | (show zAN ..; first | ((first | refine zAK (s1) ?_ ?_ | refine zAK (s2) ?_ ?_); (focus (simp only [go_sem, *]; done)); simp only [go_sem, *])) | ((with_reducible refine And.intro ?_ ?_); focus omega) | (refine zAB hK ?_; clear hK K'; simp only [go_sem, *]) | (simp only [zAH, zAA, go_sem, *]))
 all_goals first | contradiction | skip
 refine ⟨[iV 3, .agg [iV c.kind, iV c.street, iV 0, iV 0, iV 0, iV 0, iV 0]], [], [], ⟨rfl, by simp only [zAY, go_sem], trivial⟩, ?_⟩
 simp only [go_sem, *]
theorem zJ9 (p : Plan) (c : Change) (hp : p.length ≤ 4294967296) (h1 : betw c.kind 1 7 = true) (h2 : betw c.street 0 ((p.length : Int) - 1) = true) (k4 : (c.kind == 4) = true) (k5 : (c.kind == 5) = false) (k6 : (c.kind == 6) = false) (k7 : (c.kind == 7) = false) (h3 : betw c.other 0 ((p.length : Int) - 1) = false) : Spec Tryz.prog 132 [zAO p, c.enc] [] (.tup [iV 3, .agg [iV c.kind, iV c.street, iV c.other, iV 0, iV 0, iV 0, iV 0]]) [] := by
 have hw : IntKind.i64.wrap ((p.length : Int) - 1) = (p.length : Int) - 1 := wrap_i64 (by omega) (by omega)
 have s1 := zAb c.kind 1 7
 rw [h1] at s1
 have s2 := zAb c.street 0 ((p.length : Int) - 1)
 rw [h2] at s2
 have s3 := zAb c.other 0 ((p.length : Int) - 1)
 rw [h3] at s3
 refine zAF Tryz.func132 rfl (fun E hE => ?_); simp only [go_sem, Tryz.ntmps132]
 repeat' (first | (show zAC ..; first | (refine Qr rfl ?_; try intro K' hK; try simp only [go_sem, *])) | (show Hold ..; first | refine Qh rfl ?_ | refine zAG rfl Tryz.mixed (by kernel_rfl) ?_ | (refine zAD rfl ⟨_, rfl, fun hb => ?_, fun hb => ?_⟩ <;> (have hc := hb; try simp only [go_sem] at hc)) | refine zAI rfl ?_) | (refine Qb ?_ ?_; focus kernel_rfl) | (show zAN ..; first | ((first | refine zAK (s1) ?_ ?_ | refine zAK (s2) ?_ ?_ | refine zAK (s3) ?_ ?_); (focus (simp only [go_sem, *]; done)); simp only [go_sem, *])) | ((with_reducible refine And.intro ?_ ?_); focus omega) | (refine zAB hK ?_; clear hK K'; simp only [go_sem, *]) | (simp only [zAH, zAA, go_sem, *]))
 all_goals first | contradiction | skip
 refine ⟨[iV 3, .agg [iV c.kind, iV c.street, iV c.other, iV 0, iV 0, iV 0, iV 0]], [], [], ⟨rfl, by simp only [zAY, go_sem], trivial⟩, ?_⟩
 simp only [go_sem, *]
theorem zI1 (p : Plan) (c : Change) (hp : p.length ≤ 4294967296) (h1 : betw c.kind 1 7 = true) (h2 : betw c.street 0 ((p.length : Int) - 1) = true) (k4 : (c.kind == 4) = true) (k5 : (c.kind == 5) = false) (k6 : (c.kind == 6) = false) (k7 : (c.kind == 7) = false) (h3 : betw c.other 0 ((p.length : Int) - 1) = true) (h4 : (c.other == c.street) = true) : Spec Tryz.prog 132 [zAO p, c.enc] [] (.tup [iV 4, .agg [iV c.kind, iV c.street, iV c.other, iV 0, iV 0, iV 0, iV 0]]) [] := by
 have hw : IntKind.i64.wrap ((p.length : Int) - 1) = (p.length : Int) - 1 := wrap_i64 (by omega) (by omega)
 have s1 := zAb c.kind 1 7
 rw [h1] at s1
 have s2 := zAb c.street 0 ((p.length : Int) - 1)
 rw [h2] at s2
 have s3 := zAb c.other 0 ((p.length : Int) - 1)
 rw [h3] at s3
 refine zAF Tryz.func132 rfl (fun E hE => ?_); simp only [go_sem, Tryz.ntmps132]
 repeat' (first | (show zAC ..; first | (refine Qr rfl ?_; try intro K' hK; try simp only [go_sem, *])) | (show Hold ..; first | refine Qh rfl ?_ | refine zAG rfl Tryz.mixed (by kernel_rfl) ?_ | (refine zAD rfl ⟨_, rfl, fun hb => ?_, fun hb => ?_⟩ <;> (have hc := hb; try simp only [go_sem] at hc)) | refine zAI rfl ?_) | (refine Qb ?_ ?_; focus kernel_rfl) | (show zAN ..; first | ((first | refine zAK (s1) ?_ ?_ | refine zAK (s2) ?_ ?_ | refine zAK (s3) ?_ ?_); (focus (simp only [go_sem, *]; done)); simp only [go_sem, *])) | ((with_reducible refine And.intro ?_ ?_); focus omega) | (refine zAB hK ?_; clear hK K'; simp only [go_sem, *]) | (simp only [zAH, zAA, go_sem, *]))
 all_goals first | contradiction | skip
 refine ⟨[iV 4, .agg [iV c.kind, iV c.street, iV c.other, iV 0, iV 0, iV 0, iV 0]], [], [], ⟨rfl, by simp only [zAY, go_sem], trivial⟩, ?_⟩
 simp only [go_sem, *]
theorem zKA (p : Plan) (c : Change) (hp : p.length ≤ 4294967296) (h1 : betw c.kind 1 7 = true) (h2 : betw c.street 0 ((p.length : Int) - 1) = true) (k4 : (c.kind == 4) = false) (k5 : (c.kind == 5) = false) (k6 : (c.kind == 6) = false) (k7 : (c.kind == 7) = true) (h3 : betw c.other 0 ((p.length : Int) - 1) = false) : Spec Tryz.prog 132 [zAO p, c.enc] [] (.tup [iV 3, .agg [iV c.kind, iV c.street, iV c.other, iV 0, iV 0, iV 0, iV 0]]) [] := by
 have hw : IntKind.i64.wrap ((p.length : Int) - 1) = (p.length : Int) - 1 := wrap_i64 (by omega) (by omega)
 have s1 := zAb c.kind 1 7
 rw [h1] at s1
 have s2 := zAb c.street 0 ((p.length : Int) - 1)
 rw [h2] at s2
 have s3 := zAb c.other 0 ((p.length : Int) - 1)
 rw [h3] at s3
 refine zAF Tryz.func132 rfl (fun E hE => ?_); simp only [go_sem, Tryz.ntmps132]
 repeat' (first | (show zAC ..; first | (refine Qr rfl ?_; try intro K' hK; try simp only [go_sem, *])) | (show Hold ..; first | refine Qh rfl ?_ | refine zAG rfl Tryz.mixed (by kernel_rfl) ?_ | (refine zAD rfl ⟨_, rfl, fun hb => ?_, fun hb => ?_⟩ <;> (have hc := hb; try simp only [go_sem] at hc)) | refine zAI rfl ?_) | (refine Qb ?_ ?_; focus kernel_rfl) | (show zAN ..; first | ((first | refine zAK (s1) ?_ ?_ | refine zAK (s2) ?_ ?_ | refine zAK (s3) ?_ ?_); (focus (simp only [go_sem, *]; done)); simp only [go_sem, *])) | ((with_reducible refine And.intro ?_ ?_); focus omega) | (refine zAB hK ?_; clear hK K'; simp only [go_sem, *]) | (simp only [zAH, zAA, go_sem, *]))
 all_goals first | contradiction | skip
 refine ⟨[iV 3, .agg [iV c.kind, iV c.street, iV c.other, iV 0, iV 0, iV 0, iV 0]], [], [], ⟨rfl, by simp only [zAY, go_sem], trivial⟩, ?_⟩
 simp only [go_sem, *]
theorem zI2 (p : Plan) (c : Change) (hp : p.length ≤ 4294967296) (h1 : betw c.kind 1 7 = true) (h2 : betw c.street 0 ((p.length : Int) - 1) = true) (k4 : (c.kind == 4) = false) (k5 : (c.kind == 5) = false) (k6 : (c.kind == 6) = false) (k7 : (c.kind == 7) = true) (h3 : betw c.other 0 ((p.length : Int) - 1) = true) (h4 : (c.other == c.street) = true) : Spec Tryz.prog 132 [zAO p, c.enc] [] (.tup [iV 4, .agg [iV c.kind, iV c.street, iV c.other, iV 0, iV 0, iV 0, iV 0]]) [] := by
 have hw : IntKind.i64.wrap ((p.length : Int) - 1) = (p.length : Int) - 1 := wrap_i64 (by omega) (by omega)
 have s1 := zAb c.kind 1 7
 rw [h1] at s1
 have s2 := zAb c.street 0 ((p.length : Int) - 1)
 rw [h2] at s2
 have s3 := zAb c.other 0 ((p.length : Int) - 1)
 rw [h3] at s3
 refine zAF Tryz.func132 rfl (fun E hE => ?_); simp only [go_sem, Tryz.ntmps132]
 repeat' (first | (show zAC ..; first | (refine Qr rfl ?_; try intro K' hK; try simp only [go_sem, *])) | (show Hold ..; first | refine Qh rfl ?_ | refine zAG rfl Tryz.mixed (by kernel_rfl) ?_ | (refine zAD rfl ⟨_, rfl, fun hb => ?_, fun hb => ?_⟩ <;> (have hc := hb; try simp only [go_sem] at hc)) | refine zAI rfl ?_) | (refine Qb ?_ ?_; focus kernel_rfl) | (show zAN ..; first | ((first | refine zAK (s1) ?_ ?_ | refine zAK (s2) ?_ ?_ | refine zAK (s3) ?_ ?_); (focus (simp only [go_sem, *]; done)); simp only [go_sem, *])) | ((with_reducible refine And.intro ?_ ?_); focus omega) | (refine zAB hK ?_; clear hK K'; simp only [go_sem, *]) | (simp only [zAH, zAA, go_sem, *]))
 all_goals first | contradiction | skip
 refine ⟨[iV 4, .agg [iV c.kind, iV c.street, iV c.other, iV 0, iV 0, iV 0, iV 0]], [], [], ⟨rfl, by simp only [zAY, go_sem], trivial⟩, ?_⟩
 simp only [go_sem, *]
theorem zLK (p : Plan) (c : Change) (hp : p.length ≤ 4294967296) (h1 : betw c.kind 1 7 = true) (h2 : betw c.street 0 ((p.length : Int) - 1) = true) (k4 : (c.kind == 4) = true) (k5 : (c.kind == 5) = false) (k6 : (c.kind == 6) = false) (k7 : (c.kind == 7) = false) (h3 : betw c.other 0 ((p.length : Int) - 1) = true) (h4 : (c.other == c.street) = false) : Spec Tryz.prog 132 [zAO p, c.enc] [] (.tup [iV 0, .agg [iV c.kind, iV c.street, iV c.other, iV 0, iV 0, iV 0, iV 0]]) [] := by
 have hw : IntKind.i64.wrap ((p.length : Int) - 1) = (p.length : Int) - 1 := wrap_i64 (by omega) (by omega)
 have s1 := zAb c.kind 1 7
 rw [h1] at s1
 have s2 := zAb c.street 0 ((p.length : Int) - 1)
 rw [h2] at s2
 have s3 := zAb c.other 0 ((p.length : Int) - 1)
 rw [h3] at s3
 refine zAF Tryz.func132 rfl (fun E hE => ?_); simp only [go_sem, Tryz.ntmps132]
 repeat' (first | (show zAC ..; first | (refine Qr rfl ?_; try intro K' hK; try simp only [go_sem, *])) | (show Hold ..; first | refine Qh rfl ?_ | refine zAG rfl Tryz.mixed (by kernel_rfl) ?_ | (refine zAD rfl ⟨_, rfl, fun hb => ?_, fun hb => ?_⟩ <;> (have hc := hb; try simp only [go_sem] at hc)) | refine zAI rfl ?_) | (refine Qb ?_ ?_; focus kernel_rfl) | (show zAN ..; first | ((first | refine zAK (s1) ?_ ?_ | refine zAK (s2) ?_ ?_ | refine zAK (s3) ?_ ?_); (focus (simp only [go_sem, *]; done)); simp only [go_sem, *])) | ((with_reducible refine And.intro ?_ ?_); focus omega) | (refine zAB hK ?_; clear hK K'; simp only [go_sem, *]) | (simp only [zAH, zAA, go_sem, *]))
 all_goals first | contradiction | skip
 refine ⟨[iV 0, .agg [iV c.kind, iV c.street, iV c.other, iV 0, iV 0, iV 0, iV 0]], [], [], ⟨rfl, by simp only [zAY, go_sem], trivial⟩, ?_⟩
 simp only [go_sem, *]
theorem zLN (p : Plan) (c : Change) (hp : p.length ≤ 4294967296) (h1 : betw c.kind 1 7 = true) (h2 : betw c.street 0 ((p.length : Int) - 1) = true) (k4 : (c.kind == 4) = false) (k5 : (c.kind == 5) = false) (k6 : (c.kind == 6) = false) (k7 : (c.kind == 7) = true) (h3 : betw c.other 0 ((p.length : Int) - 1) = true) (h4 : (c.other == c.street) = false) : Spec Tryz.prog 132 [zAO p, c.enc] [] (.tup [iV 0, .agg [iV c.kind, iV c.street, iV c.other, iV c.src.number, iV c.src.letter, iV c.dst.number, iV c.dst.letter]]) [] := by
 have hw : IntKind.i64.wrap ((p.length : Int) - 1) = (p.length : Int) - 1 := wrap_i64 (by omega) (by omega)
 have s1 := zAb c.kind 1 7
 rw [h1] at s1
 have s2 := zAb c.street 0 ((p.length : Int) - 1)
 rw [h2] at s2
 have s3 := zAb c.other 0 ((p.length : Int) - 1)
 rw [h3] at s3
 refine zAF Tryz.func132 rfl (fun E hE => ?_); simp only [go_sem, Tryz.ntmps132]
 repeat' (first | (show zAC ..; first | (refine Qr rfl ?_; try intro K' hK; try simp only [go_sem, *])) | (show Hold ..; first | refine Qh rfl ?_ | refine zAG rfl Tryz.mixed (by kernel_rfl) ?_ | (refine zAD rfl ⟨_, rfl, fun hb => ?_, fun hb => ?_⟩ <;> (have hc := hb; try simp only [go_sem] at hc)) | refine zAI rfl ?_) | (refine Qb ?_ ?_; focus kernel_rfl) | (show zAN ..; first | ((first | refine zAK (s1) ?_ ?_ | refine zAK (s2) ?_ ?_ | refine zAK (s3) ?_ ?_); (focus (simp only [go_sem, *]; done)); simp only [go_sem, *])) | ((with_reducible refine And.intro ?_ ?_); focus omega) | (refine zAB hK ?_; clear hK K'; simp only [go_sem, *]) | (simp only [zAH, zAA, go_sem, *]))
 all_goals first | contradiction | skip
 refine ⟨[iV 0, .agg [iV c.kind, iV c.street, iV c.other, iV c.src.number, iV c.src.letter, iV c.dst.number, iV c.dst.letter]], [], [], ⟨rfl, by simp only [zAY, go_sem], trivial⟩, ?_⟩
 simp only [go_sem, *]
theorem zLL (p : Plan) (c : Change) (hp : p.length ≤ 4294967296) (h1 : betw c.kind 1 7 = true) (h2 : betw c.street 0 ((p.length : Int) - 1) = true) (k4 : (c.kind == 4) = false) (k5 : (c.kind == 5) = true) (k6 : (c.kind == 6) = false) (k7 : (c.kind == 7) = false) : Spec Tryz.prog 132 [zAO p, c.enc] [] (.tup [iV 0, .agg [iV c.kind, iV c.street, iV 0, iV c.src.number, iV c.src.letter, iV 0, iV 0]]) [] := by
 have hw : IntKind.i64.wrap ((p.length : Int) - 1) = (p.length : Int) - 1 := wrap_i64 (by omega) (by omega)
 have s1 := zAb c.kind 1 7
 rw [h1] at s1
 have s2 := zAb c.street 0 ((p.length : Int) - 1)
 rw [h2] at s2
 refine zAF Tryz.func132 rfl (fun E hE => ?_); simp only [go_sem, Tryz.ntmps132]
 repeat' (first | (show zAC ..; first | (refine Qr rfl ?_; try intro K' hK; try simp only [go_sem, *])) | (show Hold ..; first | refine Qh rfl ?_ | refine zAG rfl Tryz.mixed (by kernel_rfl) ?_ | (refine zAD rfl ⟨_, rfl, fun hb => ?_, fun hb => ?_⟩ <;> (have hc := hb; try simp only [go_sem] at hc)) | refine zAI rfl ?_) | (refine Qb ?_ ?_; focus kernel_rfl) | (show zAN ..; first | ((first | refine zAK (s1) ?_ ?_ | refine zAK (s2) ?_ ?_); (focus (simp only [go_sem, *]; done)); simp only [go_sem, *])) | ((with_reducible refine And.intro ?_ ?_); focus omega) | (refine zAB hK ?_; clear hK K'; simp only [go_sem, *]) | (simp only [zAH, zAA, go_sem, *]))
 all_goals first | contradiction | skip
 refine ⟨[iV 0, .agg [iV c.kind, iV c.street, iV 0, iV c.src.number, iV c.src.letter, iV 0, iV 0]], [], [], ⟨rfl, by simp only [zAY, go_sem], trivial⟩, ?_⟩
 simp only [go_sem, *]
theorem zLM (p : Plan) (c : Change) (hp : p.length ≤ 4294967296) (h1 : betw c.kind 1 7 = true) (h2 : betw c.street 0 ((p.length : Int) - 1) = true) (k4 : (c.kind == 4) = false) (k5 : (c.kind == 5) = false) (k6 : (c.kind == 6) = true) (k7 : (c.kind == 7) = false) : Spec Tryz.prog 132 [zAO p, c.enc] [] (.tup [iV 0, .agg [iV c.kind, iV c.street, iV 0, iV c.src.number, iV c.src.letter, iV 0, iV 0]]) [] := by
 have hw : IntKind.i64.wrap ((p.length : Int) - 1) = (p.length : Int) - 1 := wrap_i64 (by omega) (by omega)
 have s1 := zAb c.kind 1 7
 rw [h1] at s1
 have s2 := zAb c.street 0 ((p.length : Int) - 1)
 rw [h2] at s2
 refine zAF Tryz.func132 rfl (fun E hE => ?_); simp only [go_sem, Tryz.ntmps132]
 repeat' (first | (show zAC ..; first | (refine Qr rfl ?_; try intro K' hK; try simp only [go_sem, *])) | (show Hold ..; first | refine Qh rfl ?_ | refine zAG rfl Tryz.mixed (by kernel_rfl) ?_ | (refine zAD rfl ⟨_, rfl, fun hb => ?_, fun hb => ?_⟩ <;> (have hc := hb; try simp only [go_sem] at hc)) | refine zAI rfl ?_) | (refine Qb ?_ ?_; focus kernel_rfl) | (show zAN ..; first | ((first | refine zAK (s1) ?_ ?_ | refine zAK (s2) ?_ ?_); (focus (simp only [go_sem, *]; done)); simp only [go_sem, *])) | ((with_reducible refine And.intro ?_ ?_); focus omega) | (refine zAB hK ?_; clear hK K'; simp only [go_sem, *]) | (simp only [zAH, zAA, go_sem, *]))
 all_goals first | contradiction | skip
 refine ⟨[iV 0, .agg [iV c.kind, iV c.street, iV 0, iV c.src.number, iV c.src.letter, iV 0, iV 0]], [], [], ⟨rfl, by simp only [zAY, go_sem], trivial⟩, ?_⟩
 simp only [go_sem, *]
theorem zMT (p : Plan) (c : Change) (hp : p.length ≤ 4294967296) (h1 : betw c.kind 1 7 = true) (h2 : betw c.street 0 ((p.length : Int) - 1) = true) (k4 : (c.kind == 4) = false) (k5 : (c.kind == 5) = false) (k6 : (c.kind == 6) = false) (k7 : (c.kind == 7) = false) : Spec Tryz.prog 132 [zAO p, c.enc] [] (.tup [iV 0, .agg [iV c.kind, iV c.street, iV 0, iV 0, iV 0, iV 0, iV 0]]) [] := by
 have hw : IntKind.i64.wrap ((p.length : Int) - 1) = (p.length : Int) - 1 := wrap_i64 (by omega) (by omega)
 have s1 := zAb c.kind 1 7
 rw [h1] at s1
 have s2 := zAb c.street 0 ((p.length : Int) - 1)
 rw [h2] at s2
 refine zAF Tryz.func132 rfl (fun E hE => ?_); simp only [go_sem, Tryz.ntmps132]
 repeat' (first | (show zAC ..; first | (refine Qr rfl ?_; try intro K' hK; try simp only [go_sem, *])) | (show Hold ..; first | refine Qh rfl ?_ | refine zAG rfl Tryz.mixed (by kernel_rfl) ?_ | (refine zAD rfl ⟨_, rfl, fun hb => ?_, fun hb => ?_⟩ <;> (have hc := hb; try simp only [go_sem] at hc)) | refine zAI rfl ?_) | (refine Qb ?_ ?_; focus kernel_rfl) | (show zAN ..; first | ((first | refine zAK (s1) ?_ ?_ | refine zAK (s2) ?_ ?_); (focus (simp only [go_sem, *]; done)); simp only [go_sem, *])) | ((with_reducible refine And.intro ?_ ?_); focus omega) | (refine zAB hK ?_; clear hK K'; simp only [go_sem, *]) | (simp only [zAH, zAA, go_sem, *]))
 all_goals first | contradiction | skip
 refine ⟨[iV 0, .agg [iV c.kind, iV c.street, iV 0, iV 0, iV 0, iV 0, iV 0]], [], [], ⟨rfl, by simp only [zAY, go_sem], trivial⟩, ?_⟩
 simp only [go_sem, *]
def zAp (p : Plan) (c : Change) : Int :=
 if betw c.kind 1 7 = false then 8
 else if betw c.street 0 (p.length - 1) = false then 3
 else if (c.kind = 4 ∨ c.kind = 7) ∧ betw c.other 0 (p.length - 1) = false then 3
 else if (c.kind = 4 ∨ c.kind = 7) ∧ c.other = c.street then 4 else 0
def zDA (c : Change) : Change := ⟨c.kind, c.street, if c.kind = 4 ∨ c.kind = 7 then c.other else 0, if 5 ≤ c.kind then c.src else zeroPlate, if c.kind = 7 then c.dst else zeroPlate⟩
theorem zKg (p : Plan) (c : Change) : can p c = if zAp p c = 0 then (if c = zDA c then zAe p c else 1) else zAp p c := by
 unfold can zAp
 by_cases h1 : betw c.kind 1 7 = false
 ·rw [if_pos h1, if_pos h1, if_neg (by decide)]
 rw [if_neg h1, if_neg h1]
 by_cases h2 : betw c.street 0 (p.length - 1) = false
 ·rw [if_pos h2, if_pos h2, if_neg (by decide)]
 rw [if_neg h2, if_neg h2]
 by_cases h3 : (c.kind = 4 ∨ c.kind = 7) ∧ betw c.other 0 (p.length - 1) = false
 ·rw [if_pos h3, if_pos h3, if_neg (by decide)]
 rw [if_neg h3, if_neg h3]
 by_cases h4 : (c.kind = 4 ∨ c.kind = 7) ∧ c.other = c.street
 ·rw [if_pos h4, if_pos h4, if_neg (by decide)]
 rw [if_neg h4, if_neg h4, if_pos rfl]
 by_cases h5 : (¬ (c.kind = 4 ∨ c.kind = 7) ∧ c.other ≠ 0) ∨ (¬ 5 ≤ c.kind ∧ c.src ≠ zeroPlate) ∨ (¬ c.kind = 7 ∧ c.dst ≠ zeroPlate)
 ·rw [if_pos h5, if_neg]
  intro e
  rw [Change.eq_iff] at e
  obtain ⟨_, _, e1, e2, e3⟩ := e
  simp only [zDA] at e1 e2 e3
  rcases h5 with ⟨a, b⟩ | ⟨a, b⟩ | ⟨a, b⟩
  ·rw [if_neg a] at e1; exact b e1
  ·rw [if_neg a] at e2; exact b e2
  ·rw [if_neg a] at e3; exact b e3
 ·rw [if_neg h5, if_pos]
  rw [Change.eq_iff]
  refine ⟨rfl, rfl, ?_, ?_, ?_⟩
  ·simp only [zDA]
   split
   ·rfl
   ·rename_i a; exact Classical.byContradiction fun b => h5 (.inl ⟨a, b⟩)
  ·simp only [zDA]
   split
   ·rfl
   ·rename_i a; exact Classical.byContradiction fun b => h5 (.inr (.inl ⟨a, b⟩))
  ·simp only [zDA]
   split
   ·rfl
   ·rename_i a; exact Classical.byContradiction fun b => h5 (.inr (.inr ⟨a, b⟩))
theorem zMr (p : Plan) (c : Change) (hp : p.length ≤ 4294967296) : ∃ x : Change, (zAp p c = 0 → x = zDA c) ∧ Spec Tryz.prog 132 [zAO p, c.enc] [] (.tup [iV (zAp p c), x.enc]) [] := by
 have bt : ∀ {b : Bool}, ¬ b = false → b = true := fun h => by simpa using h
 have nk : ∀ n : Int, ¬ c.kind = n → (c.kind == n) = false := fun n h => by rw [beq_eq_false_iff_ne]; exact h
 have yk : ∀ n : Int, c.kind = n → (c.kind == n) = true := fun n h => by rw [beq_iff_eq]; exact h
 by_cases h1 : betw c.kind 1 7 = false
 ·have e : zAp p c = 8 := by unfold zAp; rw [if_pos h1]
  rw [e]
  exact ⟨⟨c.kind, c.street, 0, zeroPlate, zeroPlate⟩, fun h => by omega, zJ8 p c hp h1⟩
 by_cases h2 : betw c.street 0 (p.length - 1) = false
 ·have e : zAp p c = 3 := by unfold zAp; rw [if_neg h1, if_pos h2]
  rw [e]
  exact ⟨⟨c.kind, c.street, 0, zeroPlate, zeroPlate⟩, fun h => by omega, zIA p c hp (bt h1) h2⟩
 have b1 := bt h1
 have b2 := bt h2
 by_cases k47 : c.kind = 4 ∨ c.kind = 7
 ·by_cases h3 : betw c.other 0 (p.length - 1) = false
  ·have e : zAp p c = 3 := by unfold zAp; rw [if_neg h1, if_neg h2, if_pos ⟨k47, h3⟩]
   rw [e]
   refine ⟨⟨c.kind, c.street, c.other, zeroPlate, zeroPlate⟩, fun h => by omega, ?_⟩
   rcases k47 with k | k
   ·exact zJ9 p c hp b1 b2 (yk 4 k) (nk 5 (by omega)) (nk 6 (by omega)) (nk 7 (by omega)) h3
   ·exact zKA p c hp b1 b2 (nk 4 (by omega)) (nk 5 (by omega)) (nk 6 (by omega)) (yk 7 k) h3
  ·have b3 := bt h3
   by_cases h4 : c.other = c.street
   ·have e : zAp p c = 4 := by unfold zAp; rw [if_neg h1, if_neg h2, if_neg (fun h => h3 h.2), if_pos ⟨k47, h4⟩]
    have s4 : (c.other == c.street) = true := by rw [beq_iff_eq]; exact h4
    rw [e]
    refine ⟨⟨c.kind, c.street, c.other, zeroPlate, zeroPlate⟩, fun h => by omega, ?_⟩
    rcases k47 with k | k
    ·exact zI1 p c hp b1 b2 (yk 4 k) (nk 5 (by omega)) (nk 6 (by omega)) (nk 7 (by omega)) b3 s4
    ·exact zI2 p c hp b1 b2 (nk 4 (by omega)) (nk 5 (by omega)) (nk 6 (by omega)) (yk 7 k) b3 s4
   ·have e : zAp p c = 0 := by unfold zAp; rw [if_neg h1, if_neg h2, if_neg (fun h => h3 h.2), if_neg (fun h => h4 h.2)]
    have s4 : (c.other == c.street) = false := by rw [beq_eq_false_iff_ne]; exact h4
    rw [e]
    rcases k47 with k | k
    ·refine ⟨⟨c.kind, c.street, c.other, zeroPlate, zeroPlate⟩, fun _ => ?_, zLK p c hp b1 b2 (yk 4 k) (nk 5 (by omega)) (nk 6 (by omega)) (nk 7 (by omega)) b3 s4⟩
     unfold zDA; simp [k]
    ·refine ⟨⟨c.kind, c.street, c.other, c.src, c.dst⟩, fun _ => ?_, zLN p c hp b1 b2 (nk 4 (by omega)) (nk 5 (by omega)) (nk 6 (by omega)) (yk 7 k) b3 s4⟩
     unfold zDA; simp [k]
 ·have e : zAp p c = 0 := by unfold zAp; rw [if_neg h1, if_neg h2, if_neg (fun h => k47 h.1), if_neg (fun h => k47 h.1)]
  rw [e]
  by_cases k5 : c.kind = 5
  ·refine ⟨⟨c.kind, c.street, 0, c.src, zeroPlate⟩, fun _ => ?_, zLL p c hp b1 b2 (nk 4 (by omega)) (yk 5 k5) (nk 6 (by omega)) (nk 7 (by omega))⟩
   unfold zDA; simp [k5]
  ·by_cases k6 : c.kind = 6
   ·refine ⟨⟨c.kind, c.street, 0, c.src, zeroPlate⟩, fun _ => ?_, zLM p c hp b1 b2 (nk 4 (by omega)) (nk 5 k5) (yk 6 k6) (nk 7 (by omega))⟩
    unfold zDA; simp [k6]
   ·have hk := betw_iff.1 b1
    refine ⟨⟨c.kind, c.street, 0, zeroPlate, zeroPlate⟩, fun _ => ?_, zMT p c hp b1 b2 (nk 4 (by omega)) (nk 5 k5) (nk 6 k6) (nk 7 (by omega))⟩
    unfold zDA
    rw [if_neg k47, if_neg (by omega), if_neg (by omega)]
end Go.Abs

namespace Go.Abs
open Go Go.Proofs
attribute [local irreducible] zAC Hold zAN
theorem zJW (l : List Plate) (x : Plate) : idxP l x < 0 ↔ x ∉ l := by
 unfold idxP
 split
 ·rename_i h; simp [h]
 ·rename_i h; simp [h]
theorem zG3 {l : List Plate} {x : Plate} (h : x ∈ l) : ¬ idxP l x < 0 := fun e => (zJW l x).1 e h
theorem zJX {l : List Plate} {x : Plate} (h : x ∉ l) : idxP l x < 0 := (zJW l x).2 h
theorem zNP (p : Plan) (c : Change) (v : Valid p) (hs : 0 ≤ c.street ∧ c.street < p.length) (ho : 0 ≤ c.other ∧ c.other < p.length) (k : c.kind = 4) (R : Int) (hR : zAe p c = R) : Spec Tryz.prog 133 [zAO p, c.enc] [] (iV R) [] := by
 have hl := (v.row c.street).len
 have hol := (v.row c.other).len
 have hob := zId (v.row c.other)
 have hok := (v.row c.street).ok
 have sb := zLn (zAL p c.other) (by omega) (v.row c.other).ok
 have hs' : c.street.toNat < p.length := by omega
 have ho' : c.other.toNat < p.length := by omega
 obtain ⟨hs0, hs1⟩ := hs
 obtain ⟨ho0, ho1⟩ := ho
 have hw : IntKind.i64.wrap (((zAL p c.street).length : Int) + ((zAL p c.other).length : Int)) = ((zAL p c.street).length : Int) + ((zAL p c.other).length : Int) := wrap_i64 (by omega) (by omega)
 rw [zDS k] at hR
 have k' : (c.kind == 4) = true := by rw [beq_iff_eq]; exact k
 clear k
 by_cases q : 8 < (zAL p c.street).length + (zAL p c.other).length
 ·rw [if_pos q] at hR
  have q' : ((zAL p c.street).length : Int) + ((zAL p c.other).length : Int) > 8 := by omega
  subst hR
  clear hob hok
  refine zAF Tryz.func133 rfl (fun E hE => ?_); simp only [go_sem, Tryz.ntmps133]
  repeat' (first | (show zAC ..; first | (refine Qr rfl ?_; try intro K' hK; try simp only [go_sem, *]) | (refine Qi rfl rfl rfl rfl (fun hb K' hK => ?_) (fun hb => ?_) <;> (have hc := hb; try simp only [go_sem] at hc; simp only [go_sem, *]))) | (show Hold ..; first | refine Qh rfl ?_ | refine zAG rfl Tryz.mixed (by kernel_rfl) ?_ | (refine zAD rfl ⟨_, rfl, fun hb => ?_, fun hb => ?_⟩ <;> (have hc := hb; try simp only [go_sem] at hc)) | refine zAI rfl ?_) | (refine Qb ?_ ?_; focus kernel_rfl) | ((with_reducible refine And.intro ?_ ?_); focus omega) | (refine zAB hK ?_; clear hK K'; simp only [go_sem, *]) | (simp only [zAH, zAA, go_sem, *]))
  all_goals first | contradiction | omega | skip
  (refine ⟨[_], [], [], ⟨rfl, trivial⟩, ?_⟩; simp only [go_sem, *])
 ·rw [if_neg q] at hR
  have q' : ¬ ((zAL p c.street).length : Int) + ((zAL p c.other).length : Int) > 8 := by omega
  have hR0 : (if ((zAL p c.street).drop 0).any (fun x => decide (40 < x.number + base (zAL p c.other))) = true then (1 : Int) else 0) = R := hR
  clear hR q
  generalize base (zAL p c.other) = bb at *
  refine zAF Tryz.func133 rfl (fun E hE => ?_); simp only [go_sem, Tryz.ntmps133]
  repeat' (first | (show zAC ..; first | (refine Qr rfl ?_; try intro K' hK; try simp only [go_sem, *]) | (refine Qi rfl rfl rfl rfl (fun hb K' hK => ?_) (fun hb => ?_) <;> (have hc := hb; try simp only [go_sem] at hc; simp only [go_sem, *]))) | (show Hold ..; first | refine Qh rfl ?_ | refine zAG rfl Tryz.mixed (by kernel_rfl) ?_ | (refine zAD rfl ⟨_, rfl, fun hb => ?_, fun hb => ?_⟩ <;> (have hc := hb; try simp only [go_sem] at hc)) | refine zAI rfl ?_) | (refine Qb ?_ ?_; focus kernel_rfl) | ((with_reducible refine And.intro ?_ ?_); focus omega) | (refine zAB hK ?_; clear hK K'; simp only [go_sem, *]) | (simp only [zAH, zAA, go_sem, *]))
  all_goals first | contradiction | omega | skip
  generalize hll : zAL p c.street = l at *
  refine zAQ rfl (fun zn zN zenv zAs => ∃ (i : Nat), zn = (l.length) - i ∧ i ≤ (l.length) ∧ ((if (l.drop i).any (fun x => decide (40 < x.number + bb)) = true then (1 : Int) else 0) = R) ∧ zN = 97 ∧ zenv = [(7, iV i), (6, zAM (zAL p c.other)), (5, zAM l)] ∧ zAs = []) (l.length) ⟨[], [], _, _, _, (by (simp only [Weak, go_sem, List.map_append, List.map_set, *] <;> (try simp (disch := omega) only [zAE]) <;> (try simp) <;> (try omega))), 0, (by simp), (by simp), (by exact hR0), rfl, rfl, rfl⟩ ?_; rintro _ _ _ _ ⟨i, rfl, hi, hP, rfl, rfl, rfl⟩
  clear hR0
  by_cases hi2 : i < l.length
  ·have hx := (zA6 _).1 (hok _ (zAT hi2))
   rw [zAS hi2, List.any_cons] at hP
   have hwx : IntKind.i64.wrap ((l.getD i default).number + bb) = (l.getD i default).number + bb := wrap_i64 (by omega) (by omega)
   by_cases r : 40 < (l.getD i default).number + bb
   ·have e : decide (40 < (l.getD i default).number + bb) = true := by simpa using r
    rw [e, Bool.true_or, if_pos rfl] at hP
    have r' : (l.getD i default).number + bb > 40 := r
    clear e r
    subst hP
    repeat' (first | (show zAC ..; first | (refine Qr rfl ?_; try intro K' hK; try simp only [go_sem, *]) | (refine Qi rfl rfl rfl rfl (fun hb K' hK => ?_) (fun hb => ?_) <;> (have hc := hb; try simp only [go_sem] at hc; simp only [go_sem, *]))) | (show Hold ..; first | refine Qh rfl ?_ | refine zAG rfl Tryz.mixed (by kernel_rfl) ?_ | (refine zAD rfl ⟨_, rfl, fun hb => ?_, fun hb => ?_⟩ <;> (have hc := hb; try simp only [go_sem] at hc)) | refine zAI rfl ?_) | (refine Qb ?_ ?_; focus kernel_rfl) | (show zAN ..; first | (refine zAK (sb) ?_ ?_; (focus (simp only [go_sem, *]; done)); simp only [go_sem, *])) | ((with_reducible refine And.intro ?_ ?_); focus omega) | (refine zAB hK ?_; clear hK K'; simp only [go_sem, *]) | (simp only [zAH, zAA, go_sem, *]))
    all_goals first | contradiction | omega | skip
    (refine ⟨[_], [], [], ⟨rfl, trivial⟩, ?_⟩; simp only [go_sem, *])
   ·have e : decide (40 < (l.getD i default).number + bb) = false := by simpa using r
    rw [e, Bool.false_or] at hP
    have r' : ¬ (l.getD i default).number + bb > 40 := r
    clear e r
    repeat' (first | (show zAC ..; first | (refine Qr rfl ?_; try intro K' hK; try simp only [go_sem, *]) | (refine Qi rfl rfl rfl rfl (fun hb K' hK => ?_) (fun hb => ?_) <;> (have hc := hb; try simp only [go_sem] at hc; simp only [go_sem, *]))) | (show Hold ..; first | refine Qh rfl ?_ | refine zAG rfl Tryz.mixed (by kernel_rfl) ?_ | (refine zAD rfl ⟨_, rfl, fun hb => ?_, fun hb => ?_⟩ <;> (have hc := hb; try simp only [go_sem] at hc)) | refine zAI rfl ?_) | (refine Qb ?_ ?_; focus kernel_rfl) | (show zAN ..; first | (refine zAK (sb) ?_ ?_; (focus (simp only [go_sem, *]; done)); simp only [go_sem, *])) | ((with_reducible refine And.intro ?_ ?_); focus omega) | (refine zAB hK ?_; clear hK K'; simp only [go_sem, *]) | (simp only [zAH, zAA, go_sem, *]))
    all_goals first | contradiction | omega | skip
    refine ⟨_, (by omega), [], [], _, _, _, (by (simp only [Weak, go_sem, List.map_append, List.map_set, *] <;> (try simp (disch := omega) only [zAE]) <;> (try simp) <;> (try omega))), i + 1, rfl, (by omega), (by exact hP), rfl, rfl, rfl⟩
  ·rw [zAX (by omega), List.any_nil, if_neg (by decide)] at hP
   subst hP
   repeat' (first | (show zAC ..; first | (refine Qr rfl ?_; try intro K' hK; try simp only [go_sem, *]) | (refine Qi rfl rfl rfl rfl (fun hb K' hK => ?_) (fun hb => ?_) <;> (have hc := hb; try simp only [go_sem] at hc; simp only [go_sem, *]))) | (show Hold ..; first | refine Qh rfl ?_ | refine zAG rfl Tryz.mixed (by kernel_rfl) ?_ | (refine zAD rfl ⟨_, rfl, fun hb => ?_, fun hb => ?_⟩ <;> (have hc := hb; try simp only [go_sem] at hc)) | refine zAI rfl ?_) | (refine Qb ?_ ?_; focus kernel_rfl) | ((with_reducible refine And.intro ?_ ?_); focus omega) | (refine zAB hK ?_; clear hK K'; simp only [go_sem, *]) | (simp only [zAH, zAA, go_sem, *]))
   (refine ⟨[_], [], [], ⟨rfl, trivial⟩, ?_⟩; simp only [go_sem, *])
theorem zNQ (p : Plan) (c : Change) (v : Valid p) (hs : 0 ≤ c.street ∧ c.street < p.length) (k : c.kind = 5) (R : Int) (hR : zAe p c = R) : Spec Tryz.prog 133 [zAO p, c.enc] [] (iV R) [] := by
 have hl := (v.row c.street).len
 have hs' : c.street.toNat < p.length := by omega
 obtain ⟨hs0, hs1⟩ := hs
 rw [zBa k] at hR
 have k' : (c.kind == 5) = true := by rw [beq_iff_eq]; exact k
 have k4 : (c.kind == 4) = false := by rw [beq_eq_false_iff_ne]; omega
 clear k
 have s1 := zBK (zAL p c.street) c.src (by omega)
 have s2 := zIO (zAL p c.street) c.src.number (by omega)
 by_cases q : c.src ∈ zAL p c.street
 ·rw [if_neg (by simpa using q)] at hR
  have q' := zG3 q
  clear q
  generalize idxP (zAL p c.street) c.src = ix at *
  generalize letter (zAL p c.street) c.src.number = lt at *
  by_cases r : (zAL p c.street).length = 8
  ·rw [if_pos (.inl r)] at hR
   have r' : (((zAL p c.street).length : Int) == 8) = true := by rw [beq_iff_eq]; omega
   clear r
   subst hR
   refine zAF Tryz.func133 rfl (fun E hE => ?_); simp only [go_sem, Tryz.ntmps133]
   repeat' (first | (show zAC ..; first | (refine Qr rfl ?_; try intro K' hK; try simp only [go_sem, *]) | (refine Qi rfl rfl rfl rfl (fun hb K' hK => ?_) (fun hb => ?_) <;> (have hc := hb; try simp only [go_sem] at hc; simp only [go_sem, *]))) | (show Hold ..; first | refine Qh rfl ?_ | refine zAG rfl Tryz.mixed (by kernel_rfl) ?_ | (refine zAD rfl ⟨_, rfl, fun hb => ?_, fun hb => ?_⟩ <;> (have hc := hb; try simp only [go_sem] at hc)) | refine zAI rfl ?_) | (refine Qb ?_ ?_; focus kernel_rfl) | (show zAN ..; first | ((first | refine zAK (s1) ?_ ?_ | refine zAK (s2) ?_ ?_); (focus (simp only [go_sem, *]; done)); simp only [go_sem, *])) | ((with_reducible refine And.intro ?_ ?_); focus omega) | (refine zAB hK ?_; clear hK K'; simp only [go_sem, *]) | (simp only [zAH, zAA, go_sem, *]))
   all_goals first | contradiction | omega | skip
   (refine ⟨[_], [], [], ⟨rfl, trivial⟩, ?_⟩; simp only [go_sem, *])
  ·have r' : (((zAL p c.street).length : Int) == 8) = false := by rw [beq_eq_false_iff_ne]; omega
   by_cases t : lt = 0
   ·rw [if_pos (.inr t)] at hR
    clear r
    subst t
    subst hR
    refine zAF Tryz.func133 rfl (fun E hE => ?_); simp only [go_sem, Tryz.ntmps133]
    repeat' (first | (show zAC ..; first | (refine Qr rfl ?_; try intro K' hK; try simp only [go_sem, *]) | (refine Qi rfl rfl rfl rfl (fun hb K' hK => ?_) (fun hb => ?_) <;> (have hc := hb; try simp only [go_sem] at hc; simp only [go_sem, *]))) | (show Hold ..; first | refine Qh rfl ?_ | refine zAG rfl Tryz.mixed (by kernel_rfl) ?_ | (refine zAD rfl ⟨_, rfl, fun hb => ?_, fun hb => ?_⟩ <;> (have hc := hb; try simp only [go_sem] at hc)) | refine zAI rfl ?_) | (refine Qb ?_ ?_; focus kernel_rfl) | (show zAN ..; first | ((first | refine zAK (s1) ?_ ?_ | refine zAK (s2) ?_ ?_); (focus (simp only [go_sem, *]; done)); simp only [go_sem, *])) | ((with_reducible refine And.intro ?_ ?_); focus omega) | (refine zAB hK ?_; clear hK K'; simp only [go_sem, *]) | (simp only [zAH, zAA, go_sem, *]))
    all_goals first | contradiction | omega | skip
    (refine ⟨[_], [], [], ⟨rfl, trivial⟩, ?_⟩; simp only [go_sem, *])
   ·rw [if_neg (by rintro (h | h); exact r h; exact t h)] at hR
    have t' : (lt == 0) = false := by rw [beq_eq_false_iff_ne]; exact t
    clear r t
    subst hR
    refine zAF Tryz.func133 rfl (fun E hE => ?_); simp only [go_sem, Tryz.ntmps133]
    repeat' (first | (show zAC ..; first | (refine Qr rfl ?_; try intro K' hK; try simp only [go_sem, *]) | (refine Qi rfl rfl rfl rfl (fun hb K' hK => ?_) (fun hb => ?_) <;> (have hc := hb; try simp only [go_sem] at hc; simp only [go_sem, *]))) | (show Hold ..; first | refine Qh rfl ?_ | refine zAG rfl Tryz.mixed (by kernel_rfl) ?_ | (refine zAD rfl ⟨_, rfl, fun hb => ?_, fun hb => ?_⟩ <;> (have hc := hb; try simp only [go_sem] at hc)) | refine zAI rfl ?_) | (refine Qb ?_ ?_; focus kernel_rfl) | (show zAN ..; first | ((first | refine zAK (s1) ?_ ?_ | refine zAK (s2) ?_ ?_); (focus (simp only [go_sem, *]; done)); simp only [go_sem, *])) | ((with_reducible refine And.intro ?_ ?_); focus omega) | (refine zAB hK ?_; clear hK K'; simp only [go_sem, *]) | (simp only [zAH, zAA, go_sem, *]))
    all_goals first | contradiction | omega | skip
    (refine ⟨[_], [], [], ⟨rfl, trivial⟩, ?_⟩; simp only [go_sem, *])
 ·rw [if_pos q] at hR
  have q' := zJX q
  clear q
  generalize idxP (zAL p c.street) c.src = ix at *
  subst hR
  refine zAF Tryz.func133 rfl (fun E hE => ?_); simp only [go_sem, Tryz.ntmps133]
  repeat' (first | (show zAC ..; first | (refine Qr rfl ?_; try intro K' hK; try simp only [go_sem, *]) | (refine Qi rfl rfl rfl rfl (fun hb K' hK => ?_) (fun hb => ?_) <;> (have hc := hb; try simp only [go_sem] at hc; simp only [go_sem, *]))) | (show Hold ..; first | refine Qh rfl ?_ | refine zAG rfl Tryz.mixed (by kernel_rfl) ?_ | (refine zAD rfl ⟨_, rfl, fun hb => ?_, fun hb => ?_⟩ <;> (have hc := hb; try simp only [go_sem] at hc)) | refine zAI rfl ?_) | (refine Qb ?_ ?_; focus kernel_rfl) | (show zAN ..; first | (refine zAK (s1) ?_ ?_; (focus (simp only [go_sem, *]; done)); simp only [go_sem, *])) | ((with_reducible refine And.intro ?_ ?_); focus omega) | (refine zAB hK ?_; clear hK K'; simp only [go_sem, *]) | (simp only [zAH, zAA, go_sem, *]))
  all_goals first | contradiction | omega | skip
  (refine ⟨[_], [], [], ⟨rfl, trivial⟩, ?_⟩; simp only [go_sem, *])
theorem zNR (p : Plan) (c : Change) (v : Valid p) (hs : 0 ≤ c.street ∧ c.street < p.length) (k : c.kind = 6) (R : Int) (hR : zAe p c = R) : Spec Tryz.prog 133 [zAO p, c.enc] [] (iV R) [] := by
 have hl := (v.row c.street).len
 have hs' : c.street.toNat < p.length := by omega
 obtain ⟨hs0, hs1⟩ := hs
 rw [zDR k] at hR
 have k' : (c.kind == 6) = true := by rw [beq_iff_eq]; exact k
 have k4 : (c.kind == 4) = false := by rw [beq_eq_false_iff_ne]; omega
 have k5 : (c.kind == 5) = false := by rw [beq_eq_false_iff_ne]; omega
 clear k
 have s1 := zBK (zAL p c.street) c.src (by omega)
 by_cases q : c.src ∈ zAL p c.street
 ·rw [if_neg (by simpa using q)] at hR
  have q' := zG3 q
  clear q
  generalize idxP (zAL p c.street) c.src = ix at *
  subst hR
  refine zAF Tryz.func133 rfl (fun E hE => ?_); simp only [go_sem, Tryz.ntmps133]
  repeat' (first | (show zAC ..; first | (refine Qr rfl ?_; try intro K' hK; try simp only [go_sem, *]) | (refine Qi rfl rfl rfl rfl (fun hb K' hK => ?_) (fun hb => ?_) <;> (have hc := hb; try simp only [go_sem] at hc; simp only [go_sem, *]))) | (show Hold ..; first | refine Qh rfl ?_ | refine zAG rfl Tryz.mixed (by kernel_rfl) ?_ | (refine zAD rfl ⟨_, rfl, fun hb => ?_, fun hb => ?_⟩ <;> (have hc := hb; try simp only [go_sem] at hc)) | refine zAI rfl ?_) | (refine Qb ?_ ?_; focus kernel_rfl) | (show zAN ..; first | (refine zAK (s1) ?_ ?_; (focus (simp only [go_sem, *]; done)); simp only [go_sem, *])) | ((with_reducible refine And.intro ?_ ?_); focus omega) | (refine zAB hK ?_; clear hK K'; simp only [go_sem, *]) | (simp only [zAH, zAA, go_sem, *]))
  all_goals first | contradiction | omega | skip
  (refine ⟨[_], [], [], ⟨rfl, trivial⟩, ?_⟩; simp only [go_sem, *])
 ·rw [if_pos q] at hR
  have q' := zJX q
  clear q
  generalize idxP (zAL p c.street) c.src = ix at *
  subst hR
  refine zAF Tryz.func133 rfl (fun E hE => ?_); simp only [go_sem, Tryz.ntmps133]
  repeat' (first | (show zAC ..; first | (refine Qr rfl ?_; try intro K' hK; try simp only [go_sem, *]) | (refine Qi rfl rfl rfl rfl (fun hb K' hK => ?_) (fun hb => ?_) <;> (have hc := hb; try simp only [go_sem] at hc; simp only [go_sem, *]))) | (show Hold ..; first | refine Qh rfl ?_ | refine zAG rfl Tryz.mixed (by kernel_rfl) ?_ | (refine zAD rfl ⟨_, rfl, fun hb => ?_, fun hb => ?_⟩ <;> (have hc := hb; try simp only [go_sem] at hc)) | refine zAI rfl ?_) | (refine Qb ?_ ?_; focus kernel_rfl) | (show zAN ..; first | (refine zAK (s1) ?_ ?_; (focus (simp only [go_sem, *]; done)); simp only [go_sem, *])) | ((with_reducible refine And.intro ?_ ?_); focus omega) | (refine zAB hK ?_; clear hK K'; simp only [go_sem, *]) | (simp only [zAH, zAA, go_sem, *]))
  all_goals first | contradiction | omega | skip
  (refine ⟨[_], [], [], ⟨rfl, trivial⟩, ?_⟩; simp only [go_sem, *])
theorem zNS (p : Plan) (c : Change) (v : Valid p) (hs : 0 ≤ c.street ∧ c.street < p.length) (ho : 0 ≤ c.other ∧ c.other < p.length) (k : c.kind = 7) (R : Int) (hR : zAe p c = R) : Spec Tryz.prog 133 [zAO p, c.enc] [] (iV R) [] := by
 have hl := (v.row c.street).len
 have hs' : c.street.toNat < p.length := by omega
 have ho' : c.other.toNat < p.length := by omega
 obtain ⟨hs0, hs1⟩ := hs
 obtain ⟨ho0, ho1⟩ := ho
 rw [zCK k] at hR
 have k' : (c.kind == 7) = true := by rw [beq_iff_eq]; exact k
 have k4 : (c.kind == 4) = false := by rw [beq_eq_false_iff_ne]; omega
 have k5 : (c.kind == 5) = false := by rw [beq_eq_false_iff_ne]; omega
 have k6 : (c.kind == 6) = false := by rw [beq_eq_false_iff_ne]; omega
 clear k
 have s1 := zBK (zAL p c.street) c.src (by omega)
 have s2 := zBK (zAL p c.street) c.dst (by omega)
 have s3 := zDG c.dst c.src
 by_cases q : c.src ∈ zAL p c.street
 ·have q' := zG3 q
  by_cases r : c.dst ∈ zAL p c.street
  ·have r' := zG3 r
   rw [if_neg (by rintro (h | h); exact h q; exact h r)] at hR
   clear q r
   generalize idxP (zAL p c.street) c.src = ix at *
   generalize idxP (zAL p c.street) c.dst = iy at *
   by_cases t : c.dst.lt c.src = true
   ·rw [if_pos t] at hR
    rw [t] at s3
    clear t
    subst hR
    refine zAF Tryz.func133 rfl (fun E hE => ?_); simp only [go_sem, Tryz.ntmps133]
    repeat' (first | (show zAC ..; first | (refine Qr rfl ?_; try intro K' hK; try simp only [go_sem, *]) | (refine Qi rfl rfl rfl rfl (fun hb K' hK => ?_) (fun hb => ?_) <;> (have hc := hb; try simp only [go_sem] at hc; simp only [go_sem, *]))) | (show Hold ..; first | refine Qh rfl ?_ | refine zAG rfl Tryz.mixed (by kernel_rfl) ?_ | (refine zAD rfl ⟨_, rfl, fun hb => ?_, fun hb => ?_⟩ <;> (have hc := hb; try simp only [go_sem] at hc)) | refine zAI rfl ?_) | (refine Qb ?_ ?_; focus kernel_rfl) | (show zAN ..; first | ((first | refine zAK (s1) ?_ ?_ | refine zAK (s2) ?_ ?_ | refine zAK (s3) ?_ ?_); (focus (simp only [go_sem, *]; done)); simp only [go_sem, *])) | ((with_reducible refine And.intro ?_ ?_); focus omega) | (refine zAB hK ?_; clear hK K'; simp only [go_sem, *]) | (simp only [zAH, zAA, go_sem, *]))
    all_goals first | contradiction | omega | skip
    (refine ⟨[_], [], [], ⟨rfl, trivial⟩, ?_⟩; simp only [go_sem, *])
   ·rw [if_neg t] at hR
    rw [Bool.not_eq_true] at t
    rw [t] at s3
    clear t
    by_cases u : 0 < (zAL p c.other).length
    ·rw [if_pos u] at hR
     subst hR
     refine zAF Tryz.func133 rfl (fun E hE => ?_); simp only [go_sem, Tryz.ntmps133]
     repeat' (first | (show zAC ..; first | (refine Qr rfl ?_; try intro K' hK; try simp only [go_sem, *]) | (refine Qi rfl rfl rfl rfl (fun hb K' hK => ?_) (fun hb => ?_) <;> (have hc := hb; try simp only [go_sem] at hc; simp only [go_sem, *]))) | (show Hold ..; first | refine Qh rfl ?_ | refine zAG rfl Tryz.mixed (by kernel_rfl) ?_ | (refine zAD rfl ⟨_, rfl, fun hb => ?_, fun hb => ?_⟩ <;> (have hc := hb; try simp only [go_sem] at hc)) | refine zAI rfl ?_) | (refine Qb ?_ ?_; focus kernel_rfl) | (show zAN ..; first | ((first | refine zAK (s1) ?_ ?_ | refine zAK (s2) ?_ ?_ | refine zAK (s3) ?_ ?_); (focus (simp only [go_sem, *]; done)); simp only [go_sem, *])) | ((with_reducible refine And.intro ?_ ?_); focus omega) | (refine zAB hK ?_; clear hK K'; simp only [go_sem, *]) | (simp only [zAH, zAA, go_sem, *]))
     all_goals first | contradiction | omega | skip
     (refine ⟨[_], [], [], ⟨rfl, trivial⟩, ?_⟩; simp only [go_sem, *])
    ·rw [if_neg u] at hR
     subst hR
     refine zAF Tryz.func133 rfl (fun E hE => ?_); simp only [go_sem, Tryz.ntmps133]
     repeat' (first | (show zAC ..; first | (refine Qr rfl ?_; try intro K' hK; try simp only [go_sem, *]) | (refine Qi rfl rfl rfl rfl (fun hb K' hK => ?_) (fun hb => ?_) <;> (have hc := hb; try simp only [go_sem] at hc; simp only [go_sem, *]))) | (show Hold ..; first | refine Qh rfl ?_ | refine zAG rfl Tryz.mixed (by kernel_rfl) ?_ | (refine zAD rfl ⟨_, rfl, fun hb => ?_, fun hb => ?_⟩ <;> (have hc := hb; try simp only [go_sem] at hc)) | refine zAI rfl ?_) | (refine Qb ?_ ?_; focus kernel_rfl) | (show zAN ..; first | ((first | refine zAK (s1) ?_ ?_ | refine zAK (s2) ?_ ?_ | refine zAK (s3) ?_ ?_); (focus (simp only [go_sem, *]; done)); simp only [go_sem, *])) | ((with_reducible refine And.intro ?_ ?_); focus omega) | (refine zAB hK ?_; clear hK K'; simp only [go_sem, *]) | (simp only [zAH, zAA, go_sem, *]))
     all_goals first | contradiction | omega | skip
     (refine ⟨[_], [], [], ⟨rfl, trivial⟩, ?_⟩; simp only [go_sem, *])
  ·have r' := zJX r
   rw [if_pos (.inr r)] at hR
   clear q r
   generalize idxP (zAL p c.street) c.src = ix at *
   generalize idxP (zAL p c.street) c.dst = iy at *
   subst hR
   refine zAF Tryz.func133 rfl (fun E hE => ?_); simp only [go_sem, Tryz.ntmps133]
   repeat' (first | (show zAC ..; first | (refine Qr rfl ?_; try intro K' hK; try simp only [go_sem, *]) | (refine Qi rfl rfl rfl rfl (fun hb K' hK => ?_) (fun hb => ?_) <;> (have hc := hb; try simp only [go_sem] at hc; simp only [go_sem, *]))) | (show Hold ..; first | refine Qh rfl ?_ | refine zAG rfl Tryz.mixed (by kernel_rfl) ?_ | (refine zAD rfl ⟨_, rfl, fun hb => ?_, fun hb => ?_⟩ <;> (have hc := hb; try simp only [go_sem] at hc)) | refine zAI rfl ?_) | (refine Qb ?_ ?_; focus kernel_rfl) | (show zAN ..; first | ((first | refine zAK (s1) ?_ ?_ | refine zAK (s2) ?_ ?_); (focus (simp only [go_sem, *]; done)); simp only [go_sem, *])) | ((with_reducible refine And.intro ?_ ?_); focus omega) | (refine zAB hK ?_; clear hK K'; simp only [go_sem, *]) | (simp only [zAH, zAA, go_sem, *]))
   all_goals first | contradiction | omega | skip
   (refine ⟨[_], [], [], ⟨rfl, trivial⟩, ?_⟩; simp only [go_sem, *])
 ·have q' := zJX q
  rw [if_pos (.inl q)] at hR
  clear q
  generalize idxP (zAL p c.street) c.src = ix at *
  subst hR
  refine zAF Tryz.func133 rfl (fun E hE => ?_); simp only [go_sem, Tryz.ntmps133]
  repeat' (first | (show zAC ..; first | (refine Qr rfl ?_; try intro K' hK; try simp only [go_sem, *]) | (refine Qi rfl rfl rfl rfl (fun hb K' hK => ?_) (fun hb => ?_) <;> (have hc := hb; try simp only [go_sem] at hc; simp only [go_sem, *]))) | (show Hold ..; first | refine Qh rfl ?_ | refine zAG rfl Tryz.mixed (by kernel_rfl) ?_ | (refine zAD rfl ⟨_, rfl, fun hb => ?_, fun hb => ?_⟩ <;> (have hc := hb; try simp only [go_sem] at hc)) | refine zAI rfl ?_) | (refine Qb ?_ ?_; focus kernel_rfl) | (show zAN ..; first | (refine zAK (s1) ?_ ?_; (focus (simp only [go_sem, *]; done)); simp only [go_sem, *])) | ((with_reducible refine And.intro ?_ ?_); focus omega) | (refine zAB hK ?_; clear hK K'; simp only [go_sem, *]) | (simp only [zAH, zAA, go_sem, *]))
  all_goals first | contradiction | omega | skip
  (refine ⟨[_], [], [], ⟨rfl, trivial⟩, ?_⟩; simp only [go_sem, *])
theorem zKk (p : Plan) (c : Change) (hs : 0 ≤ c.street ∧ c.street < p.length) (k : c.kind < 4) : Spec Tryz.prog 133 [zAO p, c.enc] [] (iV 0) [] := by
 have hs' : c.street.toNat < p.length := by omega
 obtain ⟨hs0, hs1⟩ := hs
 have k7 : (c.kind == 7) = false := by rw [beq_eq_false_iff_ne]; omega
 have k4 : (c.kind == 4) = false := by rw [beq_eq_false_iff_ne]; omega
 have k5 : (c.kind == 5) = false := by rw [beq_eq_false_iff_ne]; omega
 have k6 : (c.kind == 6) = false := by rw [beq_eq_false_iff_ne]; omega
 clear k
 refine zAF Tryz.func133 rfl (fun E hE => ?_); simp only [go_sem, Tryz.ntmps133]
 repeat' (first | (show zAC ..; first | (refine Qr rfl ?_; try intro K' hK; try simp only [go_sem, *]) | (refine Qi rfl rfl rfl rfl (fun hb K' hK => ?_) (fun hb => ?_) <;> (have hc := hb; try simp only [go_sem] at hc; simp only [go_sem, *]))) | (show Hold ..; first | refine Qh rfl ?_ | refine zAG rfl Tryz.mixed (by kernel_rfl) ?_ | (refine zAD rfl ⟨_, rfl, fun hb => ?_, fun hb => ?_⟩ <;> (have hc := hb; try simp only [go_sem] at hc)) | refine zAI rfl ?_) | (refine Qb ?_ ?_; focus kernel_rfl) | ((with_reducible refine And.intro ?_ ?_); focus omega) | (refine zAB hK ?_; clear hK K'; simp only [go_sem, *]) | (simp only [zAH, zAA, go_sem, *]))
 all_goals first | contradiction | omega | skip
 (refine ⟨[_], [], [], ⟨rfl, trivial⟩, ?_⟩; simp only [go_sem, *])
theorem zMv (p : Plan) (c : Change) (v : Valid p) (hk : 1 ≤ c.kind ∧ c.kind ≤ 7) (hs : 0 ≤ c.street ∧ c.street < p.length) (ho : c.kind = 4 ∨ c.kind = 7 → 0 ≤ c.other ∧ c.other < p.length) : Spec Tryz.prog 133 [zAO p, c.enc] [] (iV (zAe p c)) [] := by
 rcases zHy hk with k | k | k | k | k | k | k
 ·rw [show zAe p c = 0 by simp [zAe, k]]; exact zKk p c hs (by omega)
 ·rw [show zAe p c = 0 by simp [zAe, k]]; exact zKk p c hs (by omega)
 ·rw [show zAe p c = 0 by simp [zAe, k]]; exact zKk p c hs (by omega)
 ·exact zNP p c v hs (ho (.inl k)) k _ rfl
 ·exact zNQ p c v hs k _ rfl
 ·exact zNR p c v hs k _ rfl
 ·exact zNS p c v hs (ho (.inr k)) k _ rfl
theorem zPn (p : Plan) (c : Change) (v : Valid p) : Spec Tryz.prog 98 [zAO p, c.enc] [] (iV (can p c)) [] := by
 have hp3 := v.len
 obtain ⟨x, hx, s1⟩ := zMr p c (by omega)
 rw [zKg]
 by_cases e : zAp p c = 0
 ·rw [if_pos e]
  rw [e] at s1
  have hx2 := hx e
  clear hx
  rw [← hx2]
  by_cases q : c = x
  ·rw [if_pos q]
   have q' : decide (c = x) = true := by simpa using q
   have hb : betw c.kind 1 7 = true ∧ betw c.street 0 ((p.length : Int) - 1) = true ∧ (c.kind = 4 ∨ c.kind = 7 → betw c.other 0 ((p.length : Int) - 1) = true) := by
    unfold zAp at e
    split at e
    ·omega
    ·rename_i h1
     split at e
     ·omega
     ·rename_i h2
      split at e
      ·omega
      ·rename_i h3
       refine ⟨by simpa using h1, by simpa using h2, fun h => ?_⟩
       cases hh : betw c.other 0 ((p.length : Int) - 1) with
       | true => rfl
       | false => exact absurd ⟨h, hh⟩ h3
   have b1 := betw_iff.1 hb.1
   have b2 := betw_iff.1 hb.2.1
   have s2 := zMv p c v b1 (by omega) (fun h => by have := betw_iff.1 (hb.2.2 h); omega)
   clear q hb b1 b2 e hx2
   refine zAF Tryz.func98 rfl (fun E hE => ?_); simp only [go_sem, Tryz.ntmps98]
   repeat' (first | (show zAC ..; first | (refine Qr rfl ?_; try intro K' hK; try simp only [go_sem, *])) | (show Hold ..; first | refine Qh rfl ?_ | (refine zAD rfl ⟨_, rfl, fun hb => ?_, fun hb => ?_⟩ <;> (have hc := hb; try simp only [go_sem] at hc)) | refine zAI rfl ?_) | (show zAN ..; first | ((first | refine zAK (s1) ?_ ?_ | refine zAK (s2) ?_ ?_); (focus (simp only [go_sem, *]; done)); simp only [go_sem, *])) | ((with_reducible refine And.intro ?_ ?_); focus omega) | (refine zAB hK ?_; clear hK K'; simp only [go_sem, *]) | (simp only [zAH, zAA, go_sem, *]))
   all_goals first | contradiction | skip
   (refine ⟨[_], [], [], ⟨rfl, trivial⟩, ?_⟩; simp only [go_sem, *])
  ·rw [if_neg q]
   have q' : decide (c = x) = false := by simpa using q
   clear q e hx2
   refine zAF Tryz.func98 rfl (fun E hE => ?_); simp only [go_sem, Tryz.ntmps98]
   repeat' (first | (show zAC ..; first | (refine Qr rfl ?_; try intro K' hK; try simp only [go_sem, *])) | (show Hold ..; first | refine Qh rfl ?_ | (refine zAD rfl ⟨_, rfl, fun hb => ?_, fun hb => ?_⟩ <;> (have hc := hb; try simp only [go_sem] at hc)) | refine zAI rfl ?_) | (show zAN ..; first | (refine zAK (s1) ?_ ?_; (focus (simp only [go_sem, *]; done)); simp only [go_sem, *])) | ((with_reducible refine And.intro ?_ ?_); focus omega) | (refine zAB hK ?_; clear hK K'; simp only [go_sem, *]) | (simp only [zAH, zAA, go_sem, *]))
   all_goals first | contradiction | skip
   (refine ⟨[_], [], [], ⟨rfl, trivial⟩, ?_⟩; simp only [go_sem, *])
 ·rw [if_neg e]
  have e' : (zAp p c == 0) = false := by rw [beq_eq_false_iff_ne]; exact e
  clear hx
  generalize zAp p c = er at *
  refine zAF Tryz.func98 rfl (fun E hE => ?_); simp only [go_sem, Tryz.ntmps98]
  repeat' (first | (show zAC ..; first | (refine Qr rfl ?_; try intro K' hK; try simp only [go_sem, *])) | (show Hold ..; first | refine Qh rfl ?_ | (refine zAD rfl ⟨_, rfl, fun hb => ?_, fun hb => ?_⟩ <;> (have hc := hb; try simp only [go_sem] at hc)) | refine zAI rfl ?_) | (show zAN ..; first | (refine zAK (s1) ?_ ?_; (focus (simp only [go_sem, *]; done)); simp only [go_sem, *])) | ((with_reducible refine And.intro ?_ ?_); focus omega) | (refine zAB hK ?_; clear hK K'; simp only [go_sem, *]) | (simp only [zAH, zAA, go_sem, *]))
  all_goals first | contradiction | skip
  (refine ⟨[_], [], [], ⟨rfl, trivial⟩, ?_⟩; simp only [go_sem, *])
end Go.Abs

namespace Go.Abs
open Go Go.Proofs
attribute [local irreducible] zAC Hold zAN
theorem zCz {l : List Plate} (h : Sound l) {x : Plate} (hx : x ∈ l) : l.filter (zHN (decide (x.number.tmod 2 = 1))) = l.filter (fun y => oddB y == oddB x) := by
 refine List.filter_congr (fun y hy => ?_)
 have := (zA6 _).1 (h.ok _ hx)
 have := (zA6 _).1 (h.ok _ hy)
 have e1 : x.number.tmod 2 = x.number % 2 := Int.tmod_eq_emod_of_nonneg (by omega)
 have e2 : y.number.tmod 2 = y.number % 2 := Int.tmod_eq_emod_of_nonneg (by omega)
 unfold zHN oddB
 rw [e1, e2]
 rfl
theorem zQ9 (p : Plan) (c : Change) (x : Plate) (v : Valid p) (hs : 0 ≤ c.street ∧ c.street < p.length) (hx : x ∈ zAL p c.street) (k : c.kind = 1) : Spec Tryz.prog 141 [zAO p, c.enc, x.enc] [] (zAi (toP p c x)) [] := by
 generalize hRR : toP p c x = R
 unfold toP at hRR
 rw [if_pos k] at hRR
 have k1 : (c.kind == 1) = true := by rw [beq_iff_eq]; exact k
 clear k
 have hl := (v.row c.street).len
 have hxk := (zA6 _).1 ((v.row c.street).ok _ hx)
 have hs' : c.street.toNat < p.length := by omega
 obtain ⟨hs0, hs1⟩ := hs
 have ho := zCz (v.row c.street) hx
 have sp := zCS (zAL p c.street) (decide (x.number.tmod 2 = 1)) (by omega)
 rw [ho] at sp
 have hxo := zBy hx
 have hol : ((zAL p c.street).filter (fun y => oddB y == oddB x)).length ≤ 8 := Nat.le_trans (List.length_filter_le _ _) hl
 have e1 : x.number.tmod 2 = x.number % 2 := Int.tmod_eq_emod_of_nonneg (by omega)
 clear ho
 generalize (zAL p c.street).filter (fun y => oddB y == oddB x) = o at *
 have si := zBK o x (by omega)
 rw [zBI hxo] at si
 have hk := zBt hxo
 generalize o.idxOf x = kk at *
 have w1 : IntKind.i64.wrap ((o.length : Int) - 1) = ((o.length - 1 : Nat) : Int) := by rw [wrap_i64 (by omega) (by omega)]; omega
 have hj : o.length - 1 - kk < o.length := by omega
 have w2 : IntKind.i64.wrap (((o.length - 1 : Nat) : Int) - (kk : Int)) = ((o.length - 1 - kk : Nat) : Int) := by rw [wrap_i64 (by omega) (by omega)]; omega
 generalize o.length - 1 - kk = j at *
 subst hRR
 rw [e1] at sp
 refine zAF Tryz.func141 rfl (fun E hE => ?_); simp only [go_sem, Tryz.ntmps141]
 repeat' (first | (show zAC ..; first | (refine Qr rfl ?_; try intro K' hK; try simp only [go_sem, *]) | (refine Qi rfl rfl rfl rfl (fun hb K' hK => ?_) (fun hb => ?_) <;> (have hc := hb; try simp only [go_sem] at hc; simp only [go_sem, *]))) | (show Hold ..; first | refine Qh rfl ?_ | refine zAG rfl Tryz.mixed (by kernel_rfl) ?_ | (refine zAD rfl ⟨_, rfl, fun hb => ?_, fun hb => ?_⟩ <;> (have hc := hb; try simp only [go_sem] at hc)) | refine zAI rfl ?_) | (refine Qb ?_ ?_; focus kernel_rfl) | (show zAN ..; first | (refine zAl (sp) ?_ ?_ ?_ ?_; (focus (simp only [go_sem, *]; done)); (focus (first | (simp; done) | (simp [go_sem]; done))); (focus (first | (simp; done) | (simp [go_sem]; done))); simp only [go_sem, *])) | ((with_reducible refine And.intro ?_ ?_); focus omega) | (refine zAB hK ?_; clear hK K'; simp only [go_sem, *]) | (simp only [zAH, zAA, go_sem, *]))
 all_goals first | contradiction | omega | skip
 (refine zCE [3] (si) (by simp only [go_sem, *]) (by first | exact .raw _) ?_; simp only [go_sem, *])
 repeat' (first | (show zAC ..; first | (refine Qr rfl ?_; try intro K' hK; try simp only [go_sem, *]) | (refine Qi rfl rfl rfl rfl (fun hb K' hK => ?_) (fun hb => ?_) <;> (have hc := hb; try simp only [go_sem] at hc; simp only [go_sem, *]))) | (show Hold ..; first | refine Qh rfl ?_ | refine zAG rfl Tryz.mixed (by kernel_rfl) ?_ | (refine zAD rfl ⟨_, rfl, fun hb => ?_, fun hb => ?_⟩ <;> (have hc := hb; try simp only [go_sem] at hc)) | refine zAI rfl ?_) | (refine Qb ?_ ?_; focus kernel_rfl) | ((with_reducible refine And.intro ?_ ?_); focus omega) | (refine zAB hK ?_; clear hK K'; simp only [go_sem, *]) | (simp only [zAH, zAA, go_sem, *]))
 all_goals first | contradiction | omega | skip
 refine ⟨[.own 5 3 0 1], [], [5], ⟨by simp only [zAY, go_sem], trivial⟩, ?_⟩
 simp only [go_sem, *]
theorem zRA (p : Plan) (c : Change) (x : Plate) (v : Valid p) (hs : 0 ≤ c.street ∧ c.street < p.length) (hx : x ∈ zAL p c.street) (k : c.kind = 2) : Spec Tryz.prog 141 [zAO p, c.enc, x.enc] [] (zAi (toP p c x)) [] := by
 generalize hRR : toP p c x = R
 unfold toP at hRR
 rw [if_neg (by omega : ¬ c.kind = 1)] at hRR
 rw [if_pos k] at hRR
 have k2 : (c.kind == 2) = true := by rw [beq_iff_eq]; exact k
 have k1 : (c.kind == 1) = false := by rw [beq_eq_false_iff_ne]; omega
 clear k
 have hl := (v.row c.street).len
 have hxk := (zA6 _).1 ((v.row c.street).ok _ hx)
 have hs' : c.street.toNat < p.length := by omega
 obtain ⟨hs0, hs1⟩ := hs
 have ho := zCz (v.row c.street) hx
 have sp := zCS (zAL p c.street) (decide (x.number.tmod 2 = 1)) (by omega)
 rw [ho] at sp
 have hxo := zBy hx
 have hol : ((zAL p c.street).filter (fun y => oddB y == oddB x)).length ≤ 8 := Nat.le_trans (List.length_filter_le _ _) hl
 have e1 : x.number.tmod 2 = x.number % 2 := Int.tmod_eq_emod_of_nonneg (by omega)
 clear ho
 generalize (zAL p c.street).filter (fun y => oddB y == oddB x) = o at *
 have si := zBK o x (by omega)
 rw [zBI hxo] at si
 have hk := zBt hxo
 generalize o.idxOf x = kk at *
 have w1 : IntKind.i64.wrap (x.number + 1) = x.number + 1 := wrap_i64 (by omega) (by omega)
 have w2 : IntKind.i64.wrap (x.number - 1) = x.number - 1 := wrap_i64 (by omega) (by omega)
 by_cases q : x.number % 2 = 1
 ·rw [if_pos ((zB5 x).2 q)] at hRR
  have q' : (x.number % 2 == 1) = true := by rw [beq_iff_eq]; exact q
  rw [e1, decide_eq_true q] at sp
  clear q
  subst hRR
  refine zAF Tryz.func141 rfl (fun E hE => ?_); simp only [go_sem, Tryz.ntmps141]
  repeat' (first | (show zAC ..; first | (refine Qr rfl ?_; try intro K' hK; try simp only [go_sem, *]) | (refine Qi rfl rfl rfl rfl (fun hb K' hK => ?_) (fun hb => ?_) <;> (have hc := hb; try simp only [go_sem] at hc; simp only [go_sem, *]))) | (show Hold ..; first | refine Qh rfl ?_ | refine zAG rfl Tryz.mixed (by kernel_rfl) ?_ | (refine zAD rfl ⟨_, rfl, fun hb => ?_, fun hb => ?_⟩ <;> (have hc := hb; try simp only [go_sem] at hc)) | refine zAI rfl ?_) | (refine Qb ?_ ?_; focus kernel_rfl) | (show zAN ..; first | (refine zAl (sp) ?_ ?_ ?_ ?_; (focus (simp only [go_sem, *]; done)); (focus (first | (simp; done) | (simp [go_sem]; done))); (focus (first | (simp; done) | (simp [go_sem]; done))); simp only [go_sem, *])) | ((with_reducible refine And.intro ?_ ?_); focus omega) | (refine zAB hK ?_; clear hK K'; simp only [go_sem, *]) | (simp only [zAH, zAA, go_sem, *]))
  all_goals first | contradiction | omega | skip
  (refine zCE [3] (si) (by simp only [go_sem, *]) (by first | exact .raw _) ?_; simp only [go_sem, *])
  repeat' (first | (show zAC ..; first | (refine Qr rfl ?_; try intro K' hK; try simp only [go_sem, *]) | (refine Qi rfl rfl rfl rfl (fun hb K' hK => ?_) (fun hb => ?_) <;> (have hc := hb; try simp only [go_sem] at hc; simp only [go_sem, *]))) | (show Hold ..; first | refine Qh rfl ?_ | refine zAG rfl Tryz.mixed (by kernel_rfl) ?_ | (refine zAD rfl ⟨_, rfl, fun hb => ?_, fun hb => ?_⟩ <;> (have hc := hb; try simp only [go_sem] at hc)) | refine zAI rfl ?_) | (refine Qb ?_ ?_; focus kernel_rfl) | ((with_reducible refine And.intro ?_ ?_); focus omega) | (refine zAB hK ?_; clear hK K'; simp only [go_sem, *]) | (simp only [zAH, zAA, go_sem, *]))
  all_goals first | contradiction | omega | skip
  refine ⟨[.own 5 3 0 1], [], [5], ⟨by simp only [zAY, go_sem], trivial⟩, ?_⟩
  simp only [go_sem, *]
 ·rw [if_neg (fun h => q ((zB5 x).1 h))] at hRR
  have q' : (x.number % 2 == 1) = false := by rw [beq_eq_false_iff_ne]; exact q
  rw [e1, decide_eq_false q] at sp
  clear q
  subst hRR
  refine zAF Tryz.func141 rfl (fun E hE => ?_); simp only [go_sem, Tryz.ntmps141]
  repeat' (first | (show zAC ..; first | (refine Qr rfl ?_; try intro K' hK; try simp only [go_sem, *]) | (refine Qi rfl rfl rfl rfl (fun hb K' hK => ?_) (fun hb => ?_) <;> (have hc := hb; try simp only [go_sem] at hc; simp only [go_sem, *]))) | (show Hold ..; first | refine Qh rfl ?_ | refine zAG rfl Tryz.mixed (by kernel_rfl) ?_ | (refine zAD rfl ⟨_, rfl, fun hb => ?_, fun hb => ?_⟩ <;> (have hc := hb; try simp only [go_sem] at hc)) | refine zAI rfl ?_) | (refine Qb ?_ ?_; focus kernel_rfl) | (show zAN ..; first | (refine zAl (sp) ?_ ?_ ?_ ?_; (focus (simp only [go_sem, *]; done)); (focus (first | (simp; done) | (simp [go_sem]; done))); (focus (first | (simp; done) | (simp [go_sem]; done))); simp only [go_sem, *])) | ((with_reducible refine And.intro ?_ ?_); focus omega) | (refine zAB hK ?_; clear hK K'; simp only [go_sem, *]) | (simp only [zAH, zAA, go_sem, *]))
  all_goals first | contradiction | omega | skip
  (refine zCE [3] (si) (by simp only [go_sem, *]) (by first | exact .raw _) ?_; simp only [go_sem, *])
  repeat' (first | (show zAC ..; first | (refine Qr rfl ?_; try intro K' hK; try simp only [go_sem, *]) | (refine Qi rfl rfl rfl rfl (fun hb K' hK => ?_) (fun hb => ?_) <;> (have hc := hb; try simp only [go_sem] at hc; simp only [go_sem, *]))) | (show Hold ..; first | refine Qh rfl ?_ | refine zAG rfl Tryz.mixed (by kernel_rfl) ?_ | (refine zAD rfl ⟨_, rfl, fun hb => ?_, fun hb => ?_⟩ <;> (have hc := hb; try simp only [go_sem] at hc)) | refine zAI rfl ?_) | (refine Qb ?_ ?_; focus kernel_rfl) | ((with_reducible refine And.intro ?_ ?_); focus omega) | (refine zAB hK ?_; clear hK K'; simp only [go_sem, *]) | (simp only [zAH, zAA, go_sem, *]))
  all_goals first | contradiction | omega | skip
  refine ⟨[.own 5 3 0 1], [], [5], ⟨by simp only [zAY, go_sem], trivial⟩, ?_⟩
  simp only [go_sem, *]
theorem zRB (p : Plan) (c : Change) (x : Plate) (v : Valid p) (hs : 0 ≤ c.street ∧ c.street < p.length) (hx : x ∈ zAL p c.street) (k : c.kind = 3) : Spec Tryz.prog 141 [zAO p, c.enc, x.enc] [] (zAi (toP p c x)) [] := by
 generalize hRR : toP p c x = R
 unfold toP at hRR
 rw [if_neg (by omega : ¬ c.kind = 1)] at hRR
 rw [if_neg (by omega : ¬ c.kind = 2)] at hRR
 rw [if_pos k] at hRR
 have k3 : (c.kind == 3) = true := by rw [beq_iff_eq]; exact k
 have k1 : (c.kind == 1) = false := by rw [beq_eq_false_iff_ne]; omega
 have k2 : (c.kind == 2) = false := by rw [beq_eq_false_iff_ne]; omega
 clear k
 have hl := (v.row c.street).len
 have hxk := (zA6 _).1 ((v.row c.street).ok _ hx)
 have hs' : c.street.toNat < p.length := by omega
 obtain ⟨hs0, hs1⟩ := hs
 have ho := zCz (v.row c.street) hx
 have sp := zCS (zAL p c.street) (decide (x.number.tmod 2 = 1)) (by omega)
 rw [ho] at sp
 have hxo := zBy hx
 have hol : ((zAL p c.street).filter (fun y => oddB y == oddB x)).length ≤ 8 := Nat.le_trans (List.length_filter_le _ _) hl
 have e1 : x.number.tmod 2 = x.number % 2 := Int.tmod_eq_emod_of_nonneg (by omega)
 clear ho
 generalize (zAL p c.street).filter (fun y => oddB y == oddB x) = o at *
 have si := zBK o x (by omega)
 rw [zBI hxo] at si
 have hk := zBt hxo
 generalize o.idxOf x = kk at *
 have w1 : IntKind.i64.wrap (2 * (kk : Int)) = 2 * (kk : Int) := wrap_i64 (by omega) (by omega)
 have w2 : IntKind.i64.wrap (2 * (kk : Int) + 2) = 2 * (kk : Int) + 2 := wrap_i64 (by omega) (by omega)
 have w3 : IntKind.i64.wrap (2 * (kk : Int) + 2 - x.number % 2) = 2 * (kk : Int) + 2 - x.number % 2 := wrap_i64 (by omega) (by omega)
 subst hRR
 rw [e1] at sp
 refine zAF Tryz.func141 rfl (fun E hE => ?_); simp only [go_sem, Tryz.ntmps141]
 repeat' (first | (show zAC ..; first | (refine Qr rfl ?_; try intro K' hK; try simp only [go_sem, *]) | (refine Qi rfl rfl rfl rfl (fun hb K' hK => ?_) (fun hb => ?_) <;> (have hc := hb; try simp only [go_sem] at hc; simp only [go_sem, *]))) | (show Hold ..; first | refine Qh rfl ?_ | refine zAG rfl Tryz.mixed (by kernel_rfl) ?_ | (refine zAD rfl ⟨_, rfl, fun hb => ?_, fun hb => ?_⟩ <;> (have hc := hb; try simp only [go_sem] at hc)) | refine zAI rfl ?_) | (refine Qb ?_ ?_; focus kernel_rfl) | (show zAN ..; first | (refine zAl (sp) ?_ ?_ ?_ ?_; (focus (simp only [go_sem, *]; done)); (focus (first | (simp; done) | (simp [go_sem]; done))); (focus (first | (simp; done) | (simp [go_sem]; done))); simp only [go_sem, *])) | ((with_reducible refine And.intro ?_ ?_); focus omega) | (refine zAB hK ?_; clear hK K'; simp only [go_sem, *]) | (simp only [zAH, zAA, go_sem, *]))
 all_goals first | contradiction | omega | skip
 (refine zCE [3] (si) (by simp only [go_sem, *]) (by first | exact .raw _) ?_; simp only [go_sem, *])
 repeat' (first | (show zAC ..; first | (refine Qr rfl ?_; try intro K' hK; try simp only [go_sem, *]) | (refine Qi rfl rfl rfl rfl (fun hb K' hK => ?_) (fun hb => ?_) <;> (have hc := hb; try simp only [go_sem] at hc; simp only [go_sem, *]))) | (show Hold ..; first | refine Qh rfl ?_ | refine zAG rfl Tryz.mixed (by kernel_rfl) ?_ | (refine zAD rfl ⟨_, rfl, fun hb => ?_, fun hb => ?_⟩ <;> (have hc := hb; try simp only [go_sem] at hc)) | refine zAI rfl ?_) | (refine Qb ?_ ?_; focus kernel_rfl) | ((with_reducible refine And.intro ?_ ?_); focus omega) | (refine zAB hK ?_; clear hK K'; simp only [go_sem, *]) | (simp only [zAH, zAA, go_sem, *]))
 all_goals first | contradiction | omega | skip
 refine ⟨[.own 5 3 0 1], [], [5], ⟨by simp only [zAY, go_sem], trivial⟩, ?_⟩
 simp only [go_sem, *]
theorem zRC (p : Plan) (c : Change) (x : Plate) (v : Valid p) (hs : 0 ≤ c.street ∧ c.street < p.length) (hq : 0 ≤ c.other ∧ c.other < p.length) (hx : x ∈ zAL p c.street) (k : c.kind = 4) : Spec Tryz.prog 141 [zAO p, c.enc, x.enc] [] (zAi (toP p c x)) [] := by
 generalize hRR : toP p c x = R
 unfold toP at hRR
 rw [if_neg (by omega : ¬ c.kind = 1)] at hRR
 rw [if_neg (by omega : ¬ c.kind = 2)] at hRR
 rw [if_neg (by omega : ¬ c.kind = 3)] at hRR
 rw [if_pos k] at hRR
 have k4 : (c.kind == 4) = true := by rw [beq_iff_eq]; exact k
 have k1 : (c.kind == 1) = false := by rw [beq_eq_false_iff_ne]; omega
 have k2 : (c.kind == 2) = false := by rw [beq_eq_false_iff_ne]; omega
 have k3 : (c.kind == 3) = false := by rw [beq_eq_false_iff_ne]; omega
 clear k
 have hl := (v.row c.street).len
 have hxk := (zA6 _).1 ((v.row c.street).ok _ hx)
 have hs' : c.street.toNat < p.length := by omega
 obtain ⟨hs0, hs1⟩ := hs
 have ho := zCz (v.row c.street) hx
 have sp := zCS (zAL p c.street) (decide (x.number.tmod 2 = 1)) (by omega)
 rw [ho] at sp
 have hxo := zBy hx
 have hol : ((zAL p c.street).filter (fun y => oddB y == oddB x)).length ≤ 8 := Nat.le_trans (List.length_filter_le _ _) hl
 have e1 : x.number.tmod 2 = x.number % 2 := Int.tmod_eq_emod_of_nonneg (by omega)
 clear ho
 generalize (zAL p c.street).filter (fun y => oddB y == oddB x) = o at *
 have si := zBK o x (by omega)
 rw [zBI hxo] at si
 have hk := zBt hxo
 generalize o.idxOf x = kk at *
 have hob := zId (v.row c.other)
 have sb := zLn (zAL p c.other) (by have := (v.row c.other).len; omega) (v.row c.other).ok
 have ho' : c.other.toNat < p.length := by omega
 obtain ⟨ho0, ho1⟩ := hq
 generalize base (zAL p c.other) = bb at *
 have w1 : IntKind.i64.wrap (x.number + bb) = x.number + bb := wrap_i64 (by omega) (by omega)
 subst hRR
 rw [e1] at sp
 refine zAF Tryz.func141 rfl (fun E hE => ?_); simp only [go_sem, Tryz.ntmps141]
 repeat' (first | (show zAC ..; first | (refine Qr rfl ?_; try intro K' hK; try simp only [go_sem, *]) | (refine Qi rfl rfl rfl rfl (fun hb K' hK => ?_) (fun hb => ?_) <;> (have hc := hb; try simp only [go_sem] at hc; simp only [go_sem, *]))) | (show Hold ..; first | refine Qh rfl ?_ | refine zAG rfl Tryz.mixed (by kernel_rfl) ?_ | (refine zAD rfl ⟨_, rfl, fun hb => ?_, fun hb => ?_⟩ <;> (have hc := hb; try simp only [go_sem] at hc)) | refine zAI rfl ?_) | (refine Qb ?_ ?_; focus kernel_rfl) | (show zAN ..; first | (refine zAl (sp) ?_ ?_ ?_ ?_; (focus (simp only [go_sem, *]; done)); (focus (first | (simp; done) | (simp [go_sem]; done))); (focus (first | (simp; done) | (simp [go_sem]; done))); simp only [go_sem, *])) | ((with_reducible refine And.intro ?_ ?_); focus omega) | (refine zAB hK ?_; clear hK K'; simp only [go_sem, *]) | (simp only [zAH, zAA, go_sem, *]))
 all_goals first | contradiction | omega | skip
 (refine zCE [3] (si) (by simp only [go_sem, *]) (by first | exact .raw _) ?_; simp only [go_sem, *])
 repeat' (first | (show zAC ..; first | (refine Qr rfl ?_; try intro K' hK; try simp only [go_sem, *]) | (refine Qi rfl rfl rfl rfl (fun hb K' hK => ?_) (fun hb => ?_) <;> (have hc := hb; try simp only [go_sem] at hc; simp only [go_sem, *]))) | (show Hold ..; first | refine Qh rfl ?_ | refine zAG rfl Tryz.mixed (by kernel_rfl) ?_ | (refine zAD rfl ⟨_, rfl, fun hb => ?_, fun hb => ?_⟩ <;> (have hc := hb; try simp only [go_sem] at hc)) | refine zAI rfl ?_) | (refine Qb ?_ ?_; focus kernel_rfl) | (show zAN ..; first | (refine zAK (sb) ?_ ?_; (focus (simp only [go_sem, *]; done)); simp only [go_sem, *])) | ((with_reducible refine And.intro ?_ ?_); focus omega) | (refine zAB hK ?_; clear hK K'; simp only [go_sem, *]) | (simp only [zAH, zAA, go_sem, *]))
 all_goals first | contradiction | omega | skip
 refine ⟨[.own 5 3 0 1], [], [5], ⟨by simp only [zAY, go_sem], trivial⟩, ?_⟩
 simp only [go_sem, *]
theorem zRD (p : Plan) (c : Change) (x : Plate) (v : Valid p) (hs : 0 ≤ c.street ∧ c.street < p.length) (hx : x ∈ zAL p c.street) (k : c.kind = 5) : Spec Tryz.prog 141 [zAO p, c.enc, x.enc] [] (zAi (toP p c x)) [] := by
 generalize hRR : toP p c x = R
 unfold toP at hRR
 rw [if_neg (by omega : ¬ c.kind = 1)] at hRR
 rw [if_neg (by omega : ¬ c.kind = 2)] at hRR
 rw [if_neg (by omega : ¬ c.kind = 3)] at hRR
 rw [if_neg (by omega : ¬ c.kind = 4)] at hRR
 rw [if_pos k] at hRR
 have k5 : (c.kind == 5) = true := by rw [beq_iff_eq]; exact k
 have k1 : (c.kind == 1) = false := by rw [beq_eq_false_iff_ne]; omega
 have k2 : (c.kind == 2) = false := by rw [beq_eq_false_iff_ne]; omega
 have k3 : (c.kind == 3) = false := by rw [beq_eq_false_iff_ne]; omega
 have k4 : (c.kind == 4) = false := by rw [beq_eq_false_iff_ne]; omega
 clear k
 have hl := (v.row c.street).len
 have hxk := (zA6 _).1 ((v.row c.street).ok _ hx)
 have hs' : c.street.toNat < p.length := by omega
 obtain ⟨hs0, hs1⟩ := hs
 have ho := zCz (v.row c.street) hx
 have sp := zCS (zAL p c.street) (decide (x.number.tmod 2 = 1)) (by omega)
 rw [ho] at sp
 have hxo := zBy hx
 have hol : ((zAL p c.street).filter (fun y => oddB y == oddB x)).length ≤ 8 := Nat.le_trans (List.length_filter_le _ _) hl
 have e1 : x.number.tmod 2 = x.number % 2 := Int.tmod_eq_emod_of_nonneg (by omega)
 clear ho
 generalize (zAL p c.street).filter (fun y => oddB y == oddB x) = o at *
 have si := zBK o x (by omega)
 rw [zBI hxo] at si
 have hk := zBt hxo
 generalize o.idxOf x = kk at *
 have sl := zIO (zAL p c.street) x.number (by omega)
 generalize letter (zAL p c.street) x.number = lt at *
 rw [e1] at sp
 by_cases q : x = c.src
 ·rw [if_pos q] at hRR
  have q' : decide (x = c.src) = true := decide_eq_true q
  clear q
  subst hRR
  refine zAF Tryz.func141 rfl (fun E hE => ?_); simp only [go_sem, Tryz.ntmps141]
  repeat' (first | (show zAC ..; first | (refine Qr rfl ?_; try intro K' hK; try simp only [go_sem, *]) | (refine Qi rfl rfl rfl rfl (fun hb K' hK => ?_) (fun hb => ?_) <;> (have hc := hb; try simp only [go_sem] at hc; simp only [go_sem, *]))) | (show Hold ..; first | refine Qh rfl ?_ | refine zAG rfl Tryz.mixed (by kernel_rfl) ?_ | (refine zAD rfl ⟨_, rfl, fun hb => ?_, fun hb => ?_⟩ <;> (have hc := hb; try simp only [go_sem] at hc)) | refine zAI rfl ?_) | (refine Qb ?_ ?_; focus kernel_rfl) | (show zAN ..; first | (refine zAl (sp) ?_ ?_ ?_ ?_; (focus (simp only [go_sem, *]; done)); (focus (first | (simp; done) | (simp [go_sem]; done))); (focus (first | (simp; done) | (simp [go_sem]; done))); simp only [go_sem, *])) | ((with_reducible refine And.intro ?_ ?_); focus omega) | (refine zAB hK ?_; clear hK K'; simp only [go_sem, *]) | (simp only [zAH, zAA, go_sem, *]))
  all_goals first | contradiction | omega | skip
  (refine zCE [3] (si) (by simp only [go_sem, *]) (by first | exact .raw _) ?_; simp only [go_sem, *])
  repeat' (first | (show zAC ..; first | (refine Qr rfl ?_; try intro K' hK; try simp only [go_sem, *]) | (refine Qi rfl rfl rfl rfl (fun hb K' hK => ?_) (fun hb => ?_) <;> (have hc := hb; try simp only [go_sem] at hc; simp only [go_sem, *]))) | (show Hold ..; first | refine Qh rfl ?_ | refine zAG rfl Tryz.mixed (by kernel_rfl) ?_ | (refine zAD rfl ⟨_, rfl, fun hb => ?_, fun hb => ?_⟩ <;> (have hc := hb; try simp only [go_sem] at hc)) | refine zAI rfl ?_) | (refine Qb ?_ ?_; focus kernel_rfl) | (show zAN ..; first | (refine zAK (sl) ?_ ?_; (focus (simp only [go_sem, *]; done)); simp only [go_sem, *])) | ((with_reducible refine And.intro ?_ ?_); focus omega) | (refine zAB hK ?_; clear hK K'; simp only [go_sem, *]) | (simp only [zAH, zAA, go_sem, *]))
  all_goals first | contradiction | omega | skip
  refine ⟨[.own 5 3 0 2], [], [5], ⟨by simp only [zAY, go_sem], trivial⟩, ?_⟩
  simp only [go_sem, *]
 ·rw [if_neg q] at hRR
  have q' : decide (x = c.src) = false := decide_eq_false q
  clear q
  subst hRR
  refine zAF Tryz.func141 rfl (fun E hE => ?_); simp only [go_sem, Tryz.ntmps141]
  repeat' (first | (show zAC ..; first | (refine Qr rfl ?_; try intro K' hK; try simp only [go_sem, *]) | (refine Qi rfl rfl rfl rfl (fun hb K' hK => ?_) (fun hb => ?_) <;> (have hc := hb; try simp only [go_sem] at hc; simp only [go_sem, *]))) | (show Hold ..; first | refine Qh rfl ?_ | refine zAG rfl Tryz.mixed (by kernel_rfl) ?_ | (refine zAD rfl ⟨_, rfl, fun hb => ?_, fun hb => ?_⟩ <;> (have hc := hb; try simp only [go_sem] at hc)) | refine zAI rfl ?_) | (refine Qb ?_ ?_; focus kernel_rfl) | (show zAN ..; first | (refine zAl (sp) ?_ ?_ ?_ ?_; (focus (simp only [go_sem, *]; done)); (focus (first | (simp; done) | (simp [go_sem]; done))); (focus (first | (simp; done) | (simp [go_sem]; done))); simp only [go_sem, *])) | ((with_reducible refine And.intro ?_ ?_); focus omega) | (refine zAB hK ?_; clear hK K'; simp only [go_sem, *]) | (simp only [zAH, zAA, go_sem, *]))
  all_goals first | contradiction | omega | skip
  (refine zCE [3] (si) (by simp only [go_sem, *]) (by first | exact .raw _) ?_; simp only [go_sem, *])
  repeat' (first | (show zAC ..; first | (refine Qr rfl ?_; try intro K' hK; try simp only [go_sem, *]) | (refine Qi rfl rfl rfl rfl (fun hb K' hK => ?_) (fun hb => ?_) <;> (have hc := hb; try simp only [go_sem] at hc; simp only [go_sem, *]))) | (show Hold ..; first | refine Qh rfl ?_ | refine zAG rfl Tryz.mixed (by kernel_rfl) ?_ | (refine zAD rfl ⟨_, rfl, fun hb => ?_, fun hb => ?_⟩ <;> (have hc := hb; try simp only [go_sem] at hc)) | refine zAI rfl ?_) | (refine Qb ?_ ?_; focus kernel_rfl) | ((with_reducible refine And.intro ?_ ?_); focus omega) | (refine zAB hK ?_; clear hK K'; simp only [go_sem, *]) | (simp only [zAH, zAA, go_sem, *]))
  all_goals first | contradiction | omega | skip
  refine ⟨[.own 5 3 0 1], [], [5], ⟨by simp only [zAY, go_sem], trivial⟩, ?_⟩
  simp only [go_sem, *]
theorem zRE (p : Plan) (c : Change) (x : Plate) (v : Valid p) (hs : 0 ≤ c.street ∧ c.street < p.length) (hx : x ∈ zAL p c.street) (k : c.kind = 6) : Spec Tryz.prog 141 [zAO p, c.enc, x.enc] [] (zAi (toP p c x)) [] := by
 generalize hRR : toP p c x = R
 unfold toP at hRR
 rw [if_neg (by omega : ¬ c.kind = 1)] at hRR
 rw [if_neg (by omega : ¬ c.kind = 2)] at hRR
 rw [if_neg (by omega : ¬ c.kind = 3)] at hRR
 rw [if_neg (by omega : ¬ c.kind = 4)] at hRR
 rw [if_neg (by omega : ¬ c.kind = 5)] at hRR
 rw [if_pos k] at hRR
 have k6 : (c.kind == 6) = true := by rw [beq_iff_eq]; exact k
 have k1 : (c.kind == 1) = false := by rw [beq_eq_false_iff_ne]; omega
 have k2 : (c.kind == 2) = false := by rw [beq_eq_false_iff_ne]; omega
 have k3 : (c.kind == 3) = false := by rw [beq_eq_false_iff_ne]; omega
 have k4 : (c.kind == 4) = false := by rw [beq_eq_false_iff_ne]; omega
 have k5 : (c.kind == 5) = false := by rw [beq_eq_false_iff_ne]; omega
 clear k
 have hl := (v.row c.street).len
 have hxk := (zA6 _).1 ((v.row c.street).ok _ hx)
 have hs' : c.street.toNat < p.length := by omega
 obtain ⟨hs0, hs1⟩ := hs
 have ho := zCz (v.row c.street) hx
 have sp := zCS (zAL p c.street) (decide (x.number.tmod 2 = 1)) (by omega)
 rw [ho] at sp
 have hxo := zBy hx
 have hol : ((zAL p c.street).filter (fun y => oddB y == oddB x)).length ≤ 8 := Nat.le_trans (List.length_filter_le _ _) hl
 have e1 : x.number.tmod 2 = x.number % 2 := Int.tmod_eq_emod_of_nonneg (by omega)
 clear ho
 generalize (zAL p c.street).filter (fun y => oddB y == oddB x) = o at *
 have si := zBK o x (by omega)
 rw [zBI hxo] at si
 have hk := zBt hxo
 generalize o.idxOf x = kk at *
 rw [e1] at sp
 by_cases q : x = c.src
 ·rw [if_pos q] at hRR
  have q' : decide (x = c.src) = true := decide_eq_true q
  clear q
  subst hRR
  refine zAF Tryz.func141 rfl (fun E hE => ?_); simp only [go_sem, Tryz.ntmps141]
  repeat' (first | (show zAC ..; first | (refine Qr rfl ?_; try intro K' hK; try simp only [go_sem, *]) | (refine Qi rfl rfl rfl rfl (fun hb K' hK => ?_) (fun hb => ?_) <;> (have hc := hb; try simp only [go_sem] at hc; simp only [go_sem, *]))) | (show Hold ..; first | refine Qh rfl ?_ | refine zAG rfl Tryz.mixed (by kernel_rfl) ?_ | (refine zAD rfl ⟨_, rfl, fun hb => ?_, fun hb => ?_⟩ <;> (have hc := hb; try simp only [go_sem] at hc)) | refine zAI rfl ?_) | (refine Qb ?_ ?_; focus kernel_rfl) | (show zAN ..; first | (refine zAl (sp) ?_ ?_ ?_ ?_; (focus (simp only [go_sem, *]; done)); (focus (first | (simp; done) | (simp [go_sem]; done))); (focus (first | (simp; done) | (simp [go_sem]; done))); simp only [go_sem, *])) | ((with_reducible refine And.intro ?_ ?_); focus omega) | (refine zAB hK ?_; clear hK K'; simp only [go_sem, *]) | (simp only [zAH, zAA, go_sem, *]))
  all_goals first | contradiction | omega | skip
  (refine zCE [3] (si) (by simp only [go_sem, *]) (by first | exact .raw _) ?_; simp only [go_sem, *])
  repeat' (first | (show zAC ..; first | (refine Qr rfl ?_; try intro K' hK; try simp only [go_sem, *]) | (refine Qi rfl rfl rfl rfl (fun hb K' hK => ?_) (fun hb => ?_) <;> (have hc := hb; try simp only [go_sem] at hc; simp only [go_sem, *]))) | (show Hold ..; first | refine Qh rfl ?_ | refine zAG rfl Tryz.mixed (by kernel_rfl) ?_ | (refine zAD rfl ⟨_, rfl, fun hb => ?_, fun hb => ?_⟩ <;> (have hc := hb; try simp only [go_sem] at hc)) | refine zAI rfl ?_) | (refine Qb ?_ ?_; focus kernel_rfl) | ((with_reducible refine And.intro ?_ ?_); focus omega) | (refine zAB hK ?_; clear hK K'; simp only [go_sem, *]) | (simp only [zAH, zAA, go_sem, *]))
  all_goals first | contradiction | omega | skip
  refine ⟨[nilV], [], [], ⟨by simp only [zAY, go_sem], trivial⟩, ?_⟩
  simp only [go_sem, *]
 ·rw [if_neg q] at hRR
  have q' : decide (x = c.src) = false := decide_eq_false q
  clear q
  subst hRR
  refine zAF Tryz.func141 rfl (fun E hE => ?_); simp only [go_sem, Tryz.ntmps141]
  repeat' (first | (show zAC ..; first | (refine Qr rfl ?_; try intro K' hK; try simp only [go_sem, *]) | (refine Qi rfl rfl rfl rfl (fun hb K' hK => ?_) (fun hb => ?_) <;> (have hc := hb; try simp only [go_sem] at hc; simp only [go_sem, *]))) | (show Hold ..; first | refine Qh rfl ?_ | refine zAG rfl Tryz.mixed (by kernel_rfl) ?_ | (refine zAD rfl ⟨_, rfl, fun hb => ?_, fun hb => ?_⟩ <;> (have hc := hb; try simp only [go_sem] at hc)) | refine zAI rfl ?_) | (refine Qb ?_ ?_; focus kernel_rfl) | (show zAN ..; first | (refine zAl (sp) ?_ ?_ ?_ ?_; (focus (simp only [go_sem, *]; done)); (focus (first | (simp; done) | (simp [go_sem]; done))); (focus (first | (simp; done) | (simp [go_sem]; done))); simp only [go_sem, *])) | ((with_reducible refine And.intro ?_ ?_); focus omega) | (refine zAB hK ?_; clear hK K'; simp only [go_sem, *]) | (simp only [zAH, zAA, go_sem, *]))
  all_goals first | contradiction | omega | skip
  (refine zCE [3] (si) (by simp only [go_sem, *]) (by first | exact .raw _) ?_; simp only [go_sem, *])
  repeat' (first | (show zAC ..; first | (refine Qr rfl ?_; try intro K' hK; try simp only [go_sem, *]) | (refine Qi rfl rfl rfl rfl (fun hb K' hK => ?_) (fun hb => ?_) <;> (have hc := hb; try simp only [go_sem] at hc; simp only [go_sem, *]))) | (show Hold ..; first | refine Qh rfl ?_ | refine zAG rfl Tryz.mixed (by kernel_rfl) ?_ | (refine zAD rfl ⟨_, rfl, fun hb => ?_, fun hb => ?_⟩ <;> (have hc := hb; try simp only [go_sem] at hc)) | refine zAI rfl ?_) | (refine Qb ?_ ?_; focus kernel_rfl) | ((with_reducible refine And.intro ?_ ?_); focus omega) | (refine zAB hK ?_; clear hK K'; simp only [go_sem, *]) | (simp only [zAH, zAA, go_sem, *]))
  all_goals first | contradiction | omega | skip
  refine ⟨[.own 5 3 0 1], [], [5], ⟨by simp only [zAY, go_sem], trivial⟩, ?_⟩
  simp only [go_sem, *]
theorem zRF (p : Plan) (c : Change) (x : Plate) (v : Valid p) (hs : 0 ≤ c.street ∧ c.street < p.length) (hx : x ∈ zAL p c.street) (k : c.kind = 7) : Spec Tryz.prog 141 [zAO p, c.enc, x.enc] [] (zAi (toP p c x)) [] := by
 generalize hRR : toP p c x = R
 unfold toP at hRR
 rw [if_neg (by omega : ¬ c.kind = 1)] at hRR
 rw [if_neg (by omega : ¬ c.kind = 2)] at hRR
 rw [if_neg (by omega : ¬ c.kind = 3)] at hRR
 rw [if_neg (by omega : ¬ c.kind = 4)] at hRR
 rw [if_neg (by omega : ¬ c.kind = 5)] at hRR
 rw [if_neg (by omega : ¬ c.kind = 6)] at hRR
 rw [if_pos k] at hRR
 have k7 : (c.kind == 7) = true := by rw [beq_iff_eq]; exact k
 have k1 : (c.kind == 1) = false := by rw [beq_eq_false_iff_ne]; omega
 have k2 : (c.kind == 2) = false := by rw [beq_eq_false_iff_ne]; omega
 have k3 : (c.kind == 3) = false := by rw [beq_eq_false_iff_ne]; omega
 have k4 : (c.kind == 4) = false := by rw [beq_eq_false_iff_ne]; omega
 have k5 : (c.kind == 5) = false := by rw [beq_eq_false_iff_ne]; omega
 have k6 : (c.kind == 6) = false := by rw [beq_eq_false_iff_ne]; omega
 clear k
 have hl := (v.row c.street).len
 have hxk := (zA6 _).1 ((v.row c.street).ok _ hx)
 have hs' : c.street.toNat < p.length := by omega
 obtain ⟨hs0, hs1⟩ := hs
 have ho := zCz (v.row c.street) hx
 have sp := zCS (zAL p c.street) (decide (x.number.tmod 2 = 1)) (by omega)
 rw [ho] at sp
 have hxo := zBy hx
 have hol : ((zAL p c.street).filter (fun y => oddB y == oddB x)).length ≤ 8 := Nat.le_trans (List.length_filter_le _ _) hl
 have e1 : x.number.tmod 2 = x.number % 2 := Int.tmod_eq_emod_of_nonneg (by omega)
 clear ho
 generalize (zAL p c.street).filter (fun y => oddB y == oddB x) = o at *
 have si := zBK o x (by omega)
 rw [zBI hxo] at si
 have hk := zBt hxo
 generalize o.idxOf x = kk at *
 have sb1 := zDG x c.src
 have sb2 := zDG c.dst x
 have si1 := zBK (zAL p c.street) x (by omega)
 have si2 := zBK (zAL p c.street) c.src (by omega)
 have hi1 : -1 ≤ idxP (zAL p c.street) x ∧ idxP (zAL p c.street) x ≤ 8 := by
  rw [zBI hx]; have := zBt hx; omega
 have hi2 : -1 ≤ idxP (zAL p c.street) c.src ∧ idxP (zAL p c.street) c.src ≤ 8 := by
  unfold idxP; split
  ·rename_i h; have := zBt h; omega
  ·omega
 generalize idxP (zAL p c.street) x = ix at *
 generalize idxP (zAL p c.street) c.src = iy at *
 have w1 : IntKind.i64.wrap (ix - iy) = ix - iy := wrap_i64 (by omega) (by omega)
 have w2 : IntKind.i64.wrap (ix - iy + 1) = ix - iy + 1 := wrap_i64 (by omega) (by omega)
 rw [e1] at sp
 generalize x.lt c.src = t1 at *
 generalize c.dst.lt x = t2 at *
 cases t1 <;> cases t2
 ·rw [if_pos ⟨rfl, rfl⟩] at hRR
  subst hRR
  refine zAF Tryz.func141 rfl (fun E hE => ?_); simp only [go_sem, Tryz.ntmps141]
  repeat' (first | (show zAC ..; first | (refine Qr rfl ?_; try intro K' hK; try simp only [go_sem, *]) | (refine Qi rfl rfl rfl rfl (fun hb K' hK => ?_) (fun hb => ?_) <;> (have hc := hb; try simp only [go_sem] at hc; simp only [go_sem, *]))) | (show Hold ..; first | refine Qh rfl ?_ | refine zAG rfl Tryz.mixed (by kernel_rfl) ?_ | (refine zAD rfl ⟨_, rfl, fun hb => ?_, fun hb => ?_⟩ <;> (have hc := hb; try simp only [go_sem] at hc)) | refine zAI rfl ?_) | (refine Qb ?_ ?_; focus kernel_rfl) | (show zAN ..; first | (refine zAl (sp) ?_ ?_ ?_ ?_; (focus (simp only [go_sem, *]; done)); (focus (first | (simp; done) | (simp [go_sem]; done))); (focus (first | (simp; done) | (simp [go_sem]; done))); simp only [go_sem, *])) | ((with_reducible refine And.intro ?_ ?_); focus omega) | (refine zAB hK ?_; clear hK K'; simp only [go_sem, *]) | (simp only [zAH, zAA, go_sem, *]))
  all_goals first | contradiction | omega | skip
  (refine zCE [3] (si) (by simp only [go_sem, *]) (by first | exact .raw _) ?_; simp only [go_sem, *])
  repeat' (first | (show zAC ..; first | (refine Qr rfl ?_; try intro K' hK; try simp only [go_sem, *]) | (refine Qi rfl rfl rfl rfl (fun hb K' hK => ?_) (fun hb => ?_) <;> (have hc := hb; try simp only [go_sem] at hc; simp only [go_sem, *]))) | (show Hold ..; first | refine Qh rfl ?_ | refine zAG rfl Tryz.mixed (by kernel_rfl) ?_ | (refine zAD rfl ⟨_, rfl, fun hb => ?_, fun hb => ?_⟩ <;> (have hc := hb; try simp only [go_sem] at hc)) | refine zAI rfl ?_) | (refine Qb ?_ ?_; focus kernel_rfl) | (show zAN ..; first | (refine zAK (sb1) ?_ ?_; (focus (simp only [go_sem, *]; done)); simp only [go_sem, *]) | (refine zAK (sb2) ?_ ?_; (focus (simp only [go_sem, *]; done)); simp only [go_sem, *]) | (refine zAK (si1) ?_ ?_; (focus (simp only [go_sem, *]; done)); simp only [go_sem, *]) | (refine zAK (si2) ?_ ?_; (focus (simp only [go_sem, *]; done)); simp only [go_sem, *])) | ((with_reducible refine And.intro ?_ ?_); focus omega) | (refine zAB hK ?_; clear hK K'; simp only [go_sem, *]) | (simp only [zAH, zAA, go_sem, *]))
  all_goals first | contradiction | omega | skip
  refine ⟨[.own 5 3 0 1], [], [5], ⟨by simp only [zAY, go_sem], trivial⟩, ?_⟩
  simp only [go_sem, *]
 ·rw [if_neg (fun h => by cases h.2)] at hRR
  subst hRR
  refine zAF Tryz.func141 rfl (fun E hE => ?_); simp only [go_sem, Tryz.ntmps141]
  repeat' (first | (show zAC ..; first | (refine Qr rfl ?_; try intro K' hK; try simp only [go_sem, *]) | (refine Qi rfl rfl rfl rfl (fun hb K' hK => ?_) (fun hb => ?_) <;> (have hc := hb; try simp only [go_sem] at hc; simp only [go_sem, *]))) | (show Hold ..; first | refine Qh rfl ?_ | refine zAG rfl Tryz.mixed (by kernel_rfl) ?_ | (refine zAD rfl ⟨_, rfl, fun hb => ?_, fun hb => ?_⟩ <;> (have hc := hb; try simp only [go_sem] at hc)) | refine zAI rfl ?_) | (refine Qb ?_ ?_; focus kernel_rfl) | (show zAN ..; first | (refine zAl (sp) ?_ ?_ ?_ ?_; (focus (simp only [go_sem, *]; done)); (focus (first | (simp; done) | (simp [go_sem]; done))); (focus (first | (simp; done) | (simp [go_sem]; done))); simp only [go_sem, *])) | ((with_reducible refine And.intro ?_ ?_); focus omega) | (refine zAB hK ?_; clear hK K'; simp only [go_sem, *]) | (simp only [zAH, zAA, go_sem, *]))
  all_goals first | contradiction | omega | skip
  (refine zCE [3] (si) (by simp only [go_sem, *]) (by first | exact .raw _) ?_; simp only [go_sem, *])
  repeat' (first | (show zAC ..; first | (refine Qr rfl ?_; try intro K' hK; try simp only [go_sem, *]) | (refine Qi rfl rfl rfl rfl (fun hb K' hK => ?_) (fun hb => ?_) <;> (have hc := hb; try simp only [go_sem] at hc; simp only [go_sem, *]))) | (show Hold ..; first | refine Qh rfl ?_ | refine zAG rfl Tryz.mixed (by kernel_rfl) ?_ | (refine zAD rfl ⟨_, rfl, fun hb => ?_, fun hb => ?_⟩ <;> (have hc := hb; try simp only [go_sem] at hc)) | refine zAI rfl ?_) | (refine Qb ?_ ?_; focus kernel_rfl) | (show zAN ..; first | (refine zAK (sb1) ?_ ?_; (focus (simp only [go_sem, *]; done)); simp only [go_sem, *]) | (refine zAK (sb2) ?_ ?_; (focus (simp only [go_sem, *]; done)); simp only [go_sem, *]) | (refine zAK (si1) ?_ ?_; (focus (simp only [go_sem, *]; done)); simp only [go_sem, *]) | (refine zAK (si2) ?_ ?_; (focus (simp only [go_sem, *]; done)); simp only [go_sem, *])) | ((with_reducible refine And.intro ?_ ?_); focus omega) | (refine zAB hK ?_; clear hK K'; simp only [go_sem, *]) | (simp only [zAH, zAA, go_sem, *]))
  all_goals first | contradiction | omega | skip
  refine ⟨[.own 5 3 0 1], [], [5], ⟨by simp only [zAY, go_sem], trivial⟩, ?_⟩
  simp only [go_sem, *]
 ·rw [if_neg (fun h => by cases h.1)] at hRR
  subst hRR
  refine zAF Tryz.func141 rfl (fun E hE => ?_); simp only [go_sem, Tryz.ntmps141]
  repeat' (first | (show zAC ..; first | (refine Qr rfl ?_; try intro K' hK; try simp only [go_sem, *]) | (refine Qi rfl rfl rfl rfl (fun hb K' hK => ?_) (fun hb => ?_) <;> (have hc := hb; try simp only [go_sem] at hc; simp only [go_sem, *]))) | (show Hold ..; first | refine Qh rfl ?_ | refine zAG rfl Tryz.mixed (by kernel_rfl) ?_ | (refine zAD rfl ⟨_, rfl, fun hb => ?_, fun hb => ?_⟩ <;> (have hc := hb; try simp only [go_sem] at hc)) | refine zAI rfl ?_) | (refine Qb ?_ ?_; focus kernel_rfl) | (show zAN ..; first | (refine zAl (sp) ?_ ?_ ?_ ?_; (focus (simp only [go_sem, *]; done)); (focus (first | (simp; done) | (simp [go_sem]; done))); (focus (first | (simp; done) | (simp [go_sem]; done))); simp only [go_sem, *])) | ((with_reducible refine And.intro ?_ ?_); focus omega) | (refine zAB hK ?_; clear hK K'; simp only [go_sem, *]) | (simp only [zAH, zAA, go_sem, *]))
  all_goals first | contradiction | omega | skip
  (refine zCE [3] (si) (by simp only [go_sem, *]) (by first | exact .raw _) ?_; simp only [go_sem, *])
  repeat' (first | (show zAC ..; first | (refine Qr rfl ?_; try intro K' hK; try simp only [go_sem, *]) | (refine Qi rfl rfl rfl rfl (fun hb K' hK => ?_) (fun hb => ?_) <;> (have hc := hb; try simp only [go_sem] at hc; simp only [go_sem, *]))) | (show Hold ..; first | refine Qh rfl ?_ | refine zAG rfl Tryz.mixed (by kernel_rfl) ?_ | (refine zAD rfl ⟨_, rfl, fun hb => ?_, fun hb => ?_⟩ <;> (have hc := hb; try simp only [go_sem] at hc)) | refine zAI rfl ?_) | (refine Qb ?_ ?_; focus kernel_rfl) | (show zAN ..; first | (refine zAK (sb1) ?_ ?_; (focus (simp only [go_sem, *]; done)); simp only [go_sem, *]) | (refine zAK (sb2) ?_ ?_; (focus (simp only [go_sem, *]; done)); simp only [go_sem, *]) | (refine zAK (si1) ?_ ?_; (focus (simp only [go_sem, *]; done)); simp only [go_sem, *]) | (refine zAK (si2) ?_ ?_; (focus (simp only [go_sem, *]; done)); simp only [go_sem, *])) | ((with_reducible refine And.intro ?_ ?_); focus omega) | (refine zAB hK ?_; clear hK K'; simp only [go_sem, *]) | (simp only [zAH, zAA, go_sem, *]))
  all_goals first | contradiction | omega | skip
  refine ⟨[.own 5 3 0 1], [], [5], ⟨by simp only [zAY, go_sem], trivial⟩, ?_⟩
  simp only [go_sem, *]
 ·rw [if_neg (fun h => by cases h.1)] at hRR
  subst hRR
  refine zAF Tryz.func141 rfl (fun E hE => ?_); simp only [go_sem, Tryz.ntmps141]
  repeat' (first | (show zAC ..; first | (refine Qr rfl ?_; try intro K' hK; try simp only [go_sem, *]) | (refine Qi rfl rfl rfl rfl (fun hb K' hK => ?_) (fun hb => ?_) <;> (have hc := hb; try simp only [go_sem] at hc; simp only [go_sem, *]))) | (show Hold ..; first | refine Qh rfl ?_ | refine zAG rfl Tryz.mixed (by kernel_rfl) ?_ | (refine zAD rfl ⟨_, rfl, fun hb => ?_, fun hb => ?_⟩ <;> (have hc := hb; try simp only [go_sem] at hc)) | refine zAI rfl ?_) | (refine Qb ?_ ?_; focus kernel_rfl) | (show zAN ..; first | (refine zAl (sp) ?_ ?_ ?_ ?_; (focus (simp only [go_sem, *]; done)); (focus (first | (simp; done) | (simp [go_sem]; done))); (focus (first | (simp; done) | (simp [go_sem]; done))); simp only [go_sem, *])) | ((with_reducible refine And.intro ?_ ?_); focus omega) | (refine zAB hK ?_; clear hK K'; simp only [go_sem, *]) | (simp only [zAH, zAA, go_sem, *]))
  all_goals first | contradiction | omega | skip
  (refine zCE [3] (si) (by simp only [go_sem, *]) (by first | exact .raw _) ?_; simp only [go_sem, *])
  repeat' (first | (show zAC ..; first | (refine Qr rfl ?_; try intro K' hK; try simp only [go_sem, *]) | (refine Qi rfl rfl rfl rfl (fun hb K' hK => ?_) (fun hb => ?_) <;> (have hc := hb; try simp only [go_sem] at hc; simp only [go_sem, *]))) | (show Hold ..; first | refine Qh rfl ?_ | refine zAG rfl Tryz.mixed (by kernel_rfl) ?_ | (refine zAD rfl ⟨_, rfl, fun hb => ?_, fun hb => ?_⟩ <;> (have hc := hb; try simp only [go_sem] at hc)) | refine zAI rfl ?_) | (refine Qb ?_ ?_; focus kernel_rfl) | (show zAN ..; first | (refine zAK (sb1) ?_ ?_; (focus (simp only [go_sem, *]; done)); simp only [go_sem, *]) | (refine zAK (sb2) ?_ ?_; (focus (simp only [go_sem, *]; done)); simp only [go_sem, *]) | (refine zAK (si1) ?_ ?_; (focus (simp only [go_sem, *]; done)); simp only [go_sem, *]) | (refine zAK (si2) ?_ ?_; (focus (simp only [go_sem, *]; done)); simp only [go_sem, *])) | ((with_reducible refine And.intro ?_ ?_); focus omega) | (refine zAB hK ?_; clear hK K'; simp only [go_sem, *]) | (simp only [zAH, zAA, go_sem, *]))
  all_goals first | contradiction | omega | skip
  refine ⟨[.own 5 3 0 1], [], [5], ⟨by simp only [zAY, go_sem], trivial⟩, ?_⟩
  simp only [go_sem, *]
theorem zQ6 (p : Plan) (c : Change) (x : Plate) (v : Valid p) (f : Fit p c) (hx : x ∈ zAL p c.street) : Spec Tryz.prog 141 [zAO p, c.enc, x.enc] [] (zAi (toP p c x)) [] := by
 rcases zHy f.kind with k | k | k | k | k | k | k
 ·exact zQ9 p c x v f.street hx k
 ·exact zRA p c x v f.street hx k
 ·exact zRB p c x v f.street hx k
 ·exact zRC p c x v f.street ⟨(f.other (.inl k)).1, (f.other (.inl k)).2.1⟩ hx k
 ·exact zRD p c x v f.street hx k
 ·exact zRE p c x v f.street hx k
 ·exact zRF p c x v f.street hx k
end Go.Abs

namespace Go.Abs
open Go Go.Proofs
attribute [local irreducible] zAC Hold zAN
def mvs (p : Plan) (c : Change) (h : House) : List Move := (mv p c h).map fun z => ⟨h, z⟩
theorem zHa {α β : Type} [Inhabited α] {l : List α} {g : α → List β} {i : Nat} (h : i < l.length) : (l.drop i).flatMap g = g (l.getD i default) ++ (l.drop (i + 1)).flatMap g := by
 rw [zAS h, List.flatMap_cons]
theorem zL2 (p : Plan) (c : Change) (v : Valid p) (f : Fit p c) : Spec Tryz.prog 105 [zAO p, c.enc] [] (.own 0 6 0 (zBh p c).length) [.row 6 ((zBh p c).map Move.enc)] := by
  have hR : ([] : List Move) ++ ((zAJ p).drop 0).flatMap (mvs p c) = zBh p c := rfl
  have hRl := zH9 p c
  have hc := v.count
  have sh := zKQ p (by have := v.len; omega) (fun l hl => by have := (v.rows l hl).len; omega) (by omega)
  have hin : ∀ z, z ∈ zAJ p → z.street = c.street → z.plate ∈ zAL p c.street := fun z hz e => by rw [← e]; exact (mem_houses.1 hz).2.2
  generalize zBh p c = R at *
  generalize zAJ p = hs at *
  refine zAF Tryz.func105 rfl (fun E hE => ?_); simp only [go_sem, Tryz.ntmps105]
  repeat' (first | (show zAC ..; first | (refine Qr rfl ?_; try intro K' hK; try simp only [go_sem, *])) | (show Hold ..; first | refine Qh rfl ?_ | refine zAG rfl Tryz.mixed (by kernel_rfl) ?_ | (refine zAD rfl ⟨_, rfl, fun hb => ?_, fun hb => ?_⟩ <;> (have hc := hb; try simp only [go_sem] at hc)) | refine zAI rfl ?_) | (refine Qb ?_ ?_; focus kernel_rfl) | (show zAN ..; first | (refine zAl (sh) ?_ ?_ ?_ ?_; (focus (simp only [go_sem, *]; done)); (focus (first | (simp; done) | (simp [go_sem]; done))); (focus (first | (simp; done) | (simp [go_sem]; done))); simp only [go_sem, *])) | ((with_reducible refine And.intro ?_ ?_); focus omega) | (refine zAB hK ?_; clear hK K'; simp only [go_sem, *]) | (simp only [zAH, zAA, go_sem, *]))
  refine zAQ rfl (fun zn zN zenv zAs => ∃ (i : Nat) (acc : List Move), zn = (hs.length) - i ∧ i ≤ (hs.length) ∧ (acc ++ (hs.drop i).flatMap (mvs p c) = R) ∧ zN = 58 ∧ zenv = [(7, iV i), (6, .own 2 3 0 hs.length), (5, .own 3 6 0 acc.length), (2, .ptr 0 0), (3, .ptr 1 0)] ∧ zAs = [.box [.list (p.map zAM)], .box [iV c.kind, iV c.street, iV c.other, iV c.src.number, iV c.src.letter, iV c.dst.number, iV c.dst.letter], .row 3 (hs.map House.enc), .row 6 (acc.map Move.enc)]) (hs.length) ⟨[some 0, some 1, some 2, none], [], _, _, _, (by (simp only [Weak, go_sem, List.map_append, List.map_set, *] <;> (try simp (disch := omega) only [zAE]) <;> (try simp) <;> (try omega))), 0, [], (by simp), (by simp), (by exact hR), rfl, rfl, rfl⟩ ?_; rintro _ _ _ _ ⟨i, acc, rfl, hi, hP, rfl, rfl, rfl⟩
  clear hR
  have hlen1 := congrArg List.length hP
  simp only [List.length_append] at hlen1
  by_cases hi : i < hs.length
  · rw [zHa hi] at hP
    have hm := hin _ (zAT hi)
    have ml := zGY p c (hs.getD i default)
    by_cases q : (hs.getD i default).street = c.street
    · have hS : acc ++ (((mv p c (hs.getD i default)).drop 0).map (fun z => (⟨hs.getD i default, z⟩ : Move)) ++ (hs.drop (i + 1)).flatMap (mvs p c)) = R := hP
      have st := zQ6 p c (hs.getD i default).plate v f (hm q)
      have q' : ((hs.getD i default).street == c.street) = true := by rw [beq_iff_eq]; exact q
      unfold mv at hS ml
      rw [if_pos q] at hS ml
      clear q hP hm hin
      generalize hll : toP p c (hs.getD i default).plate = l at *
      repeat' (first | (show zAC ..; first | (refine Qr rfl ?_; try intro K' hK; try simp only [go_sem, *])) | (show Hold ..; first | refine Qh rfl ?_ | refine zAG rfl Tryz.mixed (by kernel_rfl) ?_ | (refine zAD rfl ⟨_, rfl, fun hb => ?_, fun hb => ?_⟩ <;> (have hc := hb; try simp only [go_sem] at hc)) | refine zAI rfl ?_) | (refine Qb ?_ ?_; focus kernel_rfl) | (show zAN ..; first | (refine zAK (st) ?_ ?_; (focus (simp only [go_sem, *]; done)); simp only [go_sem, *])) | ((with_reducible refine And.intro ?_ ?_); focus omega) | (refine zAB hK ?_; clear hK K'; simp only [go_sem, *]) | (simp only [zAH, zAA, go_sem, *]))
      all_goals first | contradiction | omega | skip
      generalize hh : hs.getD i default = h at *
      refine zAQ rfl (fun zn zN zenv zAs => ∃ (j : Nat) (acc2 : List Move), zn = (l.length) - j ∧ j ≤ (l.length) ∧ (acc2 ++ ((l.drop j).map (fun z => (⟨h, z⟩ : Move)) ++ (hs.drop (i + 1)).flatMap (mvs p c)) = R) ∧ zN = 58 ∧ zenv = [(9, iV j), (8, zAi l), (7, iV i), (6, .own 2 3 0 hs.length), (5, .own 3 6 0 acc2.length), (2, .ptr 0 0), (3, .ptr 1 0)] ∧ zAs = [.box [.list (p.map zAM)], .box [iV c.kind, iV c.street, iV c.other, iV c.src.number, iV c.src.letter, iV c.dst.number, iV c.dst.letter], .row 3 (hs.map House.enc), .row 6 (acc2.map Move.enc)]) (l.length) ⟨[some 0, some 1, some 2, some 3], [], _, _, _, (by (simp only [Weak, go_sem, List.map_append, List.map_set, *] <;> (try simp (disch := omega) only [zAE]) <;> (try simp) <;> (try omega))), 0, acc, (by simp), (by simp), (by exact hS), rfl, rfl, rfl⟩ ?_; rintro _ _ _ _ ⟨j, acc2, rfl, hj, hQ, rfl, rfl, rfl⟩
      have hlen2 := congrArg List.length hQ
      simp only [List.length_append, List.length_map, List.length_drop] at hlen2
      clear hlen1 hS
      by_cases hj : j < l.length
      · repeat' (first | (show zAC ..; first | (refine Qr rfl ?_; try intro K' hK; try simp only [go_sem, *])) | (show Hold ..; first | refine Qh rfl ?_ | refine zAG rfl Tryz.mixed (by kernel_rfl) ?_ | (refine zAD rfl ⟨_, rfl, fun hb => ?_, fun hb => ?_⟩ <;> (have hc := hb; try simp only [go_sem] at hc)) | refine zAI rfl ?_) | (refine Qb ?_ ?_; focus kernel_rfl) | ((with_reducible refine And.intro ?_ ?_); focus omega) | (refine zAB hK ?_; clear hK K'; simp only [go_sem, *]) | (simp only [zAH, zAA, go_sem, *]))
        all_goals first | contradiction | omega | skip
        refine ⟨_, (by omega), [some 0, some 1, some 2, some 5], [], _, _, _, (by (simp only [Weak, go_sem, List.map_append, List.map_set, *] <;> (try simp (disch := omega) only [zAE]) <;> (try simp) <;> (try omega))), j + 1, acc2 ++ [⟨h, l.getD j default⟩], rfl, (by omega), (by rw [← hQ, zAS (i := j) (by assumption), List.map_cons]; simp), rfl, rfl, rfl⟩
      · rw [zAX (by omega)] at hQ
        repeat' (first | (show zAC ..; first | (refine Qr rfl ?_; try intro K' hK; try simp only [go_sem, *])) | (show Hold ..; first | refine Qh rfl ?_ | refine zAG rfl Tryz.mixed (by kernel_rfl) ?_ | (refine zAD rfl ⟨_, rfl, fun hb => ?_, fun hb => ?_⟩ <;> (have hc := hb; try simp only [go_sem] at hc)) | refine zAI rfl ?_) | (refine Qb ?_ ?_; focus kernel_rfl) | ((with_reducible refine And.intro ?_ ?_); focus omega) | (refine zAB hK ?_; clear hK K'; simp only [go_sem, *]) | (simp only [zAH, zAA, go_sem, *]))
        all_goals first | contradiction | omega | skip
        refine ⟨_, (by omega), [some 0, some 1, some 2, some 3], [], _, _, _, (by (simp only [Weak, go_sem, List.map_append, List.map_set, *] <;> (try simp (disch := omega) only [zAE]) <;> (try simp) <;> (try omega))), i + 1, acc2, rfl, (by omega), (by simpa using hQ), rfl, rfl, rfl⟩
    · have hS : acc ++ (([hs.getD i default].drop 0).map (fun z => (⟨hs.getD i default, z⟩ : Move)) ++ (hs.drop (i + 1)).flatMap (mvs p c)) = R := by
        rw [← hP]; unfold mvs mv; rw [if_neg q]; rfl
      have q' : ((hs.getD i default).street == c.street) = false := by rw [beq_eq_false_iff_ne]; exact q
      clear q hP hm hin ml
      repeat' (first | (show zAC ..; first | (refine Qr rfl ?_; try intro K' hK; try simp only [go_sem, *])) | (show Hold ..; first | refine Qh rfl ?_ | refine zAG rfl Tryz.mixed (by kernel_rfl) ?_ | (refine zAD rfl ⟨_, rfl, fun hb => ?_, fun hb => ?_⟩ <;> (have hc := hb; try simp only [go_sem] at hc)) | refine zAI rfl ?_) | (refine Qb ?_ ?_; focus kernel_rfl) | ((with_reducible refine And.intro ?_ ?_); focus omega) | (refine zAB hK ?_; clear hK K'; simp only [go_sem, *]) | (simp only [zAH, zAA, go_sem, *]))
      all_goals first | contradiction | omega | skip
      generalize hh : hs.getD i default = h at *
      refine zAQ rfl (fun zn zN zenv zAs => ∃ (j : Nat) (acc2 : List Move), zn = ([h].length) - j ∧ j ≤ ([h].length) ∧ (acc2 ++ (([h].drop j).map (fun z => (⟨h, z⟩ : Move)) ++ (hs.drop (i + 1)).flatMap (mvs p c)) = R) ∧ zN = 58 ∧ zenv = [(9, iV j), (8, zAi [h]), (7, iV i), (6, .own 2 3 0 hs.length), (5, .own 3 6 0 acc2.length), (2, .ptr 0 0), (3, .ptr 1 0)] ∧ zAs = [.box [.list (p.map zAM)], .box [iV c.kind, iV c.street, iV c.other, iV c.src.number, iV c.src.letter, iV c.dst.number, iV c.dst.letter], .row 3 (hs.map House.enc), .row 6 (acc2.map Move.enc)]) ([h].length) ⟨[some 0, some 1, some 2, some 3], [4], _, _, _, (by (simp only [Weak, go_sem, List.map_append, List.map_set, *] <;> (try simp (disch := omega) only [zAE]) <;> (try simp) <;> (try omega))), 0, acc, (by simp), (by simp), (by exact hS), rfl, rfl, rfl⟩ ?_; rintro _ _ _ _ ⟨j, acc2, rfl, hj, hQ, rfl, rfl, rfl⟩
      generalize hll : [h] = l at *
      have ml : l.length ≤ 2 := by rw [← hll]; simp
      have hlen2 := congrArg List.length hQ
      simp only [List.length_append, List.length_map, List.length_drop] at hlen2
      clear hlen1 hS
      by_cases hj : j < l.length
      · repeat' (first | (show zAC ..; first | (refine Qr rfl ?_; try intro K' hK; try simp only [go_sem, *])) | (show Hold ..; first | refine Qh rfl ?_ | refine zAG rfl Tryz.mixed (by kernel_rfl) ?_ | (refine zAD rfl ⟨_, rfl, fun hb => ?_, fun hb => ?_⟩ <;> (have hc := hb; try simp only [go_sem] at hc)) | refine zAI rfl ?_) | (refine Qb ?_ ?_; focus kernel_rfl) | ((with_reducible refine And.intro ?_ ?_); focus omega) | (refine zAB hK ?_; clear hK K'; simp only [go_sem, *]) | (simp only [zAH, zAA, go_sem, *]))
        all_goals first | contradiction | omega | skip
        refine ⟨_, (by omega), [some 0, some 1, some 2, some 5], [], _, _, _, (by (simp only [Weak, go_sem, List.map_append, List.map_set, *] <;> (try simp (disch := omega) only [zAE]) <;> (try simp) <;> (try omega))), j + 1, acc2 ++ [⟨h, l.getD j default⟩], rfl, (by omega), (by rw [← hQ, zAS (i := j) (by assumption), List.map_cons]; simp), rfl, rfl, rfl⟩
      · rw [zAX (by omega)] at hQ
        repeat' (first | (show zAC ..; first | (refine Qr rfl ?_; try intro K' hK; try simp only [go_sem, *])) | (show Hold ..; first | refine Qh rfl ?_ | refine zAG rfl Tryz.mixed (by kernel_rfl) ?_ | (refine zAD rfl ⟨_, rfl, fun hb => ?_, fun hb => ?_⟩ <;> (have hc := hb; try simp only [go_sem] at hc)) | refine zAI rfl ?_) | (refine Qb ?_ ?_; focus kernel_rfl) | ((with_reducible refine And.intro ?_ ?_); focus omega) | (refine zAB hK ?_; clear hK K'; simp only [go_sem, *]) | (simp only [zAH, zAA, go_sem, *]))
        all_goals first | contradiction | omega | skip
        refine ⟨_, (by omega), [some 0, some 1, some 2, some 3], [], _, _, _, (by (simp only [Weak, go_sem, List.map_append, List.map_set, *] <;> (try simp (disch := omega) only [zAE]) <;> (try simp) <;> (try omega))), i + 1, acc2, rfl, (by omega), (by simpa using hQ), rfl, rfl, rfl⟩
  · rw [zAX (by omega), List.flatMap_nil, List.append_nil] at hP
    repeat' (first | (show zAC ..; first | (refine Qr rfl ?_; try intro K' hK; try simp only [go_sem, *])) | (show Hold ..; first | refine Qh rfl ?_ | refine zAG rfl Tryz.mixed (by kernel_rfl) ?_ | (refine zAD rfl ⟨_, rfl, fun hb => ?_, fun hb => ?_⟩ <;> (have hc := hb; try simp only [go_sem] at hc)) | refine zAI rfl ?_) | (refine Qb ?_ ?_; focus kernel_rfl) | ((with_reducible refine And.intro ?_ ?_); focus omega) | (refine zAB hK ?_; clear hK K'; simp only [go_sem, *]) | (simp only [zAH, zAA, go_sem, *]))
    all_goals first | contradiction | omega | skip
    refine ⟨[_], [some 3], [], ⟨rfl, trivial⟩, ?_⟩
    simp only [go_sem, hP, *]
end Go.Abs

namespace Go.Abs
open Go Go.Proofs
attribute [local irreducible] zAC Hold zAN
theorem zMt {n : Nat} (l : List House) (hn : 0 < n ∧ n ≤ 3) (hst : ∀ z, z ∈ l → 0 ≤ z.street ∧ z.street < n) (hl : l.length ≤ 4294967296) : Spec Tryz.prog 127 [.list (l.map House.enc), iV n] [] (zAO (laid l n)) [] := by
 rcases (by omega : n = 1 ∨ n = 2 ∨ n = 3) with rfl | rfl | rfl
 ·exact zLz l hst hl
 ·exact zL0 l hst hl
 ·exact zL1 l hst hl
theorem zMu (p : Plan) (c : Change) (v : Valid p) (f : Fit p c) : Spec Tryz.prog 91 [zAO p, c.enc] [] (zAO (zAk p c)) [] := by
 have hst := fun z (hz : z ∈ zBT p c) => zC6 v f hz
 have hml := zH9 p c
 have hd := zLH p c
 have hcn := v.count
 have hdl : (zBT p c).length = (zBh p c).length := by rw [← hd, List.length_map]
 have sl := zMt (n := p.length) (zBT p c) ⟨v.ne, v.len⟩ (fun z hz => ⟨(hst z hz).1, (hst z hz).2.1⟩) (by omega)
 have sm := zL2 p c v f
 have e : laid (zBT p c) p.length = zAk p c := rfl
 rw [e] at sl
 clear e
 generalize zAk p c = Q at *
 have h0 : ((zBh p c).take 0).map Move.dst = [] := by simp
 have hE0 : ((zBh p c).take (zBh p c).length).map Move.dst = zBT p c := by rw [List.take_length, hd]
 have hvl := v.len
 have hMb : (zBh p c).length ≤ 48 := by omega
 have hLb : (zBT p c).length ≤ 48 := by omega
 generalize zBh p c = M at *
 generalize zBT p c = L at *
 clear hst hd hdl
 refine zAF Tryz.func91 rfl (fun E hE => ?_); simp only [go_sem, Tryz.ntmps91]
 repeat' (first | (show zAC ..; first | (refine Qr rfl ?_; try intro K' hK; try simp only [go_sem, *])) | (show Hold ..; first | refine Qh rfl ?_ | (refine zAD rfl ⟨_, rfl, fun hb => ?_, fun hb => ?_⟩ <;> (have hc := hb; try simp only [go_sem] at hc)) | refine zAI rfl ?_) | (show zAN ..; first | (refine zAl (sm) ?_ ?_ ?_ ?_; (focus (simp only [go_sem, *]; done)); (focus (first | (simp; done) | (simp [go_sem]; done))); (focus (first | (simp; done) | (simp [go_sem]; done))); simp only [go_sem, *])) | ((with_reducible refine And.intro ?_ ?_); focus omega) | (refine zAB hK ?_; clear hK K'; simp only [go_sem, *]) | (simp only [zAH, zAA, go_sem, *]))
 refine zAQ rfl (fun zn zN zenv zAs => ∃ (i : Nat) (acc : List House), zn = (M.length) - i ∧ i ≤ (M.length) ∧ (acc ++ (M.drop i).map Move.dst = L) ∧ zN = 30 ∧ zenv = [(7, iV i), (6, .own 3 6 0 M.length), (5, .own 4 3 0 acc.length), (2, .ptr 0 0), (3, .ptr 1 0), (4, .ptr 2 0)] ∧ zAs = [.box [.list (p.map zAM)], .box [iV c.kind, iV c.street, iV c.other, iV c.src.number, iV c.src.letter, iV c.dst.number, iV c.dst.letter], .box [nilV], .row 6 (M.map Move.enc), .row 3 (acc.map House.enc)]) (M.length) ⟨[some 0, some 1, some 2, some 3, none], [], _, _, _, (by (simp only [Weak, go_sem, List.map_append, List.map_set, *] <;> (try simp (disch := omega) only [zAE]) <;> (try simp) <;> (try omega))), 0, [], (by simp), (by simp), (by rw [← hE0, List.take_length]; rfl), rfl, rfl, rfl⟩ ?_; rintro _ _ _ _ ⟨i, acc, rfl, hi, hP, rfl, rfl, rfl⟩
 have hlen1 := congrArg List.length hP
 simp only [List.length_append, List.length_map, List.length_drop] at hlen1
 by_cases hi : i < M.length
 ·repeat' (first | (show zAC ..; first | (refine Qr rfl ?_; try intro K' hK; try simp only [go_sem, *])) | (show Hold ..; first | refine Qh rfl ?_ | (refine zAD rfl ⟨_, rfl, fun hb => ?_, fun hb => ?_⟩ <;> (have hc := hb; try simp only [go_sem] at hc)) | refine zAI rfl ?_) | ((with_reducible refine And.intro ?_ ?_); focus omega) | (refine zAB hK ?_; clear hK K'; simp only [go_sem, *]) | (simp only [zAH, zAA, go_sem, *]))
  all_goals first | contradiction | omega | skip
  refine ⟨_, (by omega), [some 0, some 1, some 2, some 3, some 6], [], _, _, _, (by (simp only [Weak, go_sem, List.map_append, List.map_set, *] <;> (try simp (disch := omega) only [zAE]) <;> (try simp) <;> (try omega))), i + 1, acc ++ [(M.getD i default).dst], rfl, (by omega), (by rw [← hP, zAS (i := i) (by assumption), List.map_cons]; simp), rfl, rfl, rfl⟩
 ·rw [zAX (by omega), List.map_nil, List.append_nil] at hP
  subst hP
  repeat' (first | (show zAC ..; first | (refine Qr rfl ?_; try intro K' hK; try simp only [go_sem, *])) | (show Hold ..; first | refine Qh rfl ?_ | (refine zAD rfl ⟨_, rfl, fun hb => ?_, fun hb => ?_⟩ <;> (have hc := hb; try simp only [go_sem] at hc)) | refine zAI rfl ?_) | ((with_reducible refine And.intro ?_ ?_); focus omega) | (refine zAB hK ?_; clear hK K'; simp only [go_sem, *]) | (simp only [zAH, zAA, go_sem, *]))
  all_goals first | contradiction | omega | skip
  (refine zBG (sl) (by simp only [go_sem, *]; done) rfl (by simp only [go_sem]; done) (by simp) (by simp) ?_; simp only [go_sem, zA9, *])
  repeat' (first | (show zAC ..; first | (refine Qr rfl ?_; try intro K' hK; try simp only [go_sem, *])) | (show Hold ..; first | refine Qh rfl ?_ | (refine zAD rfl ⟨_, rfl, fun hb => ?_, fun hb => ?_⟩ <;> (have hc := hb; try simp only [go_sem] at hc)) | refine zAI rfl ?_) | ((with_reducible refine And.intro ?_ ?_); focus omega) | (refine zAB hK ?_; clear hK K'; simp only [go_sem, *]) | (simp only [zAH, zAA, go_sem, *]))
  all_goals first | contradiction | omega | skip
  refine ⟨[zAO Q], [], [], ⟨(by simp only [zAY, go_sem]), trivial⟩, ?_⟩; simp only [go_sem, *]
end Go.Abs

namespace Go.Abs
open Go Go.Proofs
attribute [local irreducible] zAC Hold zAN
theorem zIR (p : Plan) (c : Change) (hl : p.length ≤ 4294967296) : Spec Tryz.prog 90 [zAO p, c.enc] [] (iV (zBH p c)) [] := by
 have s1 := zLy p hl
 unfold zBH
 by_cases q : check p = 0
 ·have s2 := zPn p c ((zBY p).1 q)
  rw [if_pos q]
  rw [q] at s1
  clear q
  generalize can p c = R at *
  refine zAF Tryz.func90 rfl (fun E hE => ?_); simp only [go_sem, Tryz.ntmps90]
  repeat' (first | (show zAC ..; first | (refine Qr rfl ?_; try intro K' hK; try simp only [go_sem, *])) | (show Hold ..; first | refine Qh rfl ?_ | (refine zAD rfl ⟨_, rfl, fun hb => ?_, fun hb => ?_⟩ <;> (have hc := hb; try simp only [go_sem] at hc)) | refine zAI rfl ?_) | (show zAN ..; first | ((first | refine zAK (s1) ?_ ?_ | refine zAK (s2) ?_ ?_); (focus (simp only [go_sem, *]; done)); simp only [go_sem, *])) | ((with_reducible refine And.intro ?_ ?_); focus omega) | (refine zAB hK ?_; clear hK K'; simp only [go_sem, *]) | (simp only [zAH, zAA, go_sem, *]))
  all_goals first | contradiction | omega | skip
  (refine ⟨[_], [], [], ⟨rfl, trivial⟩, ?_⟩; simp only [go_sem, *])
 ·rw [if_neg q]
  have q' : (check p != 0) = true := by simpa using q
  clear q
  generalize check p = R at *
  refine zAF Tryz.func90 rfl (fun E hE => ?_); simp only [go_sem, Tryz.ntmps90]
  repeat' (first | (show zAC ..; first | (refine Qr rfl ?_; try intro K' hK; try simp only [go_sem, *])) | (show Hold ..; first | refine Qh rfl ?_ | (refine zAD rfl ⟨_, rfl, fun hb => ?_, fun hb => ?_⟩ <;> (have hc := hb; try simp only [go_sem] at hc)) | refine zAI rfl ?_) | (show zAN ..; first | (refine zAK (s1) ?_ ?_; (focus (simp only [go_sem, *]; done)); simp only [go_sem, *])) | ((with_reducible refine And.intro ?_ ?_); focus omega) | (refine zAB hK ?_; clear hK K'; simp only [go_sem, *]) | (simp only [zAH, zAA, go_sem, *]))
  all_goals first | contradiction | omega | skip
  (refine ⟨[_], [], [], ⟨rfl, trivial⟩, ?_⟩; simp only [go_sem, *])
theorem zNH (p : Plan) (c : Change) (v : Valid p) (f : Fit p c) (h : zBH p c = 0) : Spec Tryz.prog 26 [zAO p, c.enc] [] (.tup [zAO (zAk p c), iV 0]) [] := by
 have s1 := zIR p c (by have := v.len; omega)
 have s2 := zMu p c v f
 rw [h] at s1
 clear h
 generalize zAk p c = Q at *
 refine zAF Tryz.func26 rfl (fun E hE => ?_); simp only [go_sem, Tryz.ntmps26]
 repeat' (first | (show zAC ..; first | (refine Qr rfl ?_; try intro K' hK; try simp only [go_sem, *])) | (show Hold ..; first | refine Qh rfl ?_ | (refine zAD rfl ⟨_, rfl, fun hb => ?_, fun hb => ?_⟩ <;> (have hc := hb; try simp only [go_sem] at hc)) | refine zAI rfl ?_) | (show zAN ..; first | ((first | refine zAK (s1) ?_ ?_ | refine zAK (s2) ?_ ?_); (focus (simp only [go_sem, *]; done)); simp only [go_sem, *])) | ((with_reducible refine And.intro ?_ ?_); focus omega) | (refine zAB hK ?_; clear hK K'; simp only [go_sem, *]) | (simp only [zAH, zAA, go_sem, *]))
 all_goals first | contradiction | omega | skip
 refine ⟨[zAO Q, iV 0], [], [], ⟨(by simp only [zAY, go_sem]), rfl, trivial⟩, ?_⟩; simp only [go_sem, *]
theorem zMs (p : Plan) (c : Change) (hl : p.length ≤ 4294967296) (h : zBH p c ≠ 0) : Spec Tryz.prog 26 [zAO p, c.enc] [] (.tup [zAO [], iV (zBH p c)]) [] := by
 have s1 := zIR p c hl
 have q' : (zBH p c != 0) = true := by simpa using h
 clear h
 generalize zBH p c = R at *
 refine zAF Tryz.func26 rfl (fun E hE => ?_); simp only [go_sem, Tryz.ntmps26]
 repeat' (first | (show zAC ..; first | (refine Qr rfl ?_; try intro K' hK; try simp only [go_sem, *])) | (show Hold ..; first | refine Qh rfl ?_ | (refine zAD rfl ⟨_, rfl, fun hb => ?_, fun hb => ?_⟩ <;> (have hc := hb; try simp only [go_sem] at hc)) | refine zAI rfl ?_) | (show zAN ..; first | (refine zAK (s1) ?_ ?_; (focus (simp only [go_sem, *]; done)); simp only [go_sem, *])) | ((with_reducible refine And.intro ?_ ?_); focus omega) | (refine zAB hK ?_; clear hK K'; simp only [go_sem, *]) | (simp only [zAH, zAA, go_sem, *]))
 all_goals first | contradiction | omega | skip
 refine ⟨[.agg [nilV], iV R], [], [], ⟨(by simp only [zAY, go_sem]), rfl, trivial⟩, ?_⟩; simp only [go_sem, *]
end Go.Abs

namespace Go.Abs
open Go Go.Proofs
attribute [local irreducible] zAC Hold zAN
theorem zNx (l : List House) (x : House) (h1 : l.length ≤ 4294967296) : Spec Tryz.prog 43 [zAi l, x.enc] [] (bV (decide (x ∈ l))) [] := by
 refine zAF Tryz.func43 rfl (fun E hE => ?_); simp only [go_sem, Tryz.ntmps43]
 repeat' (first | (show zAC ..; first | (refine Qr rfl ?_; try intro K' hK; try simp only [go_sem, *])) | (show Hold ..; first | refine Qh rfl ?_ | refine zAG rfl Tryz.mixed (by kernel_rfl) ?_ | (refine zAD rfl ⟨_, rfl, fun hb => ?_, fun hb => ?_⟩ <;> (have hc := hb; try simp only [go_sem] at hc)) | refine zAI rfl ?_) | (refine Qb ?_ ?_; focus kernel_rfl) | ((with_reducible refine And.intro ?_ ?_); focus omega) | (refine zAB hK ?_; clear hK K'; simp only [go_sem, *]) | (simp only [zAH, zAA, go_sem, *]))
 refine zAQ rfl (fun zn zN zenv zAs => ∃ (i : Nat), zn = (l.length) - i ∧ i ≤ (l.length) ∧ (x ∉ l.take i) ∧ zN = 18 ∧ zenv = [(5, iV i), (3, .ptr 0 0), (0, zAi l)] ∧ zAs = [.box [iV x.street, iV x.plate.number, iV x.plate.letter]]) (l.length) ⟨[some 0], [], _, _, _, (by (simp only [Weak, go_sem, List.map_append, List.map_set, *] <;> (try simp (disch := omega) only [zAE]) <;> (try simp) <;> (try omega))), 0, (by simp), (by simp), (by simp), rfl, rfl, rfl⟩ ?_; rintro _ _ _ _ ⟨i, rfl, hi, hP, rfl, rfl, rfl⟩
 by_cases hi : i < l.length
 ·by_cases q : l.getD i default = x
  ·have q' : decide (l.getD i default = x) = true := decide_eq_true q
   have hm : decide (x ∈ l) = true := decide_eq_true (by rw [← q]; exact zAT hi)
   clear q
   repeat' (first | (show zAC ..; first | (refine Qr rfl ?_; try intro K' hK; try simp only [go_sem, *])) | (show Hold ..; first | refine Qh rfl ?_ | refine zAG rfl Tryz.mixed (by kernel_rfl) ?_ | (refine zAD rfl ⟨_, rfl, fun hb => ?_, fun hb => ?_⟩ <;> (have hc := hb; try simp only [go_sem] at hc)) | refine zAI rfl ?_) | (refine Qb ?_ ?_; focus kernel_rfl) | ((with_reducible refine And.intro ?_ ?_); focus omega) | (refine zAB hK ?_; clear hK K'; simp only [go_sem, *]) | (simp only [zAH, zAA, go_sem, *]))
   all_goals first | contradiction | omega | skip
   (refine ⟨[_], [], [], ⟨rfl, trivial⟩, ?_⟩; simp only [go_sem, *])
  ·have q' : decide (l.getD i default = x) = false := decide_eq_false q
   repeat' (first | (show zAC ..; first | (refine Qr rfl ?_; try intro K' hK; try simp only [go_sem, *])) | (show Hold ..; first | refine Qh rfl ?_ | refine zAG rfl Tryz.mixed (by kernel_rfl) ?_ | (refine zAD rfl ⟨_, rfl, fun hb => ?_, fun hb => ?_⟩ <;> (have hc := hb; try simp only [go_sem] at hc)) | refine zAI rfl ?_) | (refine Qb ?_ ?_; focus kernel_rfl) | ((with_reducible refine And.intro ?_ ?_); focus omega) | (refine zAB hK ?_; clear hK K'; simp only [go_sem, *]) | (simp only [zAH, zAA, go_sem, *]))
   all_goals first | contradiction | omega | skip
   refine ⟨_, (by omega), [some 0], [], _, _, _, (by (simp only [Weak, go_sem, List.map_append, List.map_set, *] <;> (try simp (disch := omega) only [zAE]) <;> (try simp) <;> (try omega))), i + 1, rfl, (by omega), (by rw [zAa hi, List.mem_append, List.mem_singleton]; exact fun h => h.elim hP (fun e => q e.symm)), rfl, rfl, rfl⟩
 ·rw [List.take_of_length_le (by omega)] at hP
  have hm : decide (x ∈ l) = false := decide_eq_false hP
  repeat' (first | (show zAC ..; first | (refine Qr rfl ?_; try intro K' hK; try simp only [go_sem, *])) | (show Hold ..; first | refine Qh rfl ?_ | refine zAG rfl Tryz.mixed (by kernel_rfl) ?_ | (refine zAD rfl ⟨_, rfl, fun hb => ?_, fun hb => ?_⟩ <;> (have hc := hb; try simp only [go_sem] at hc)) | refine zAI rfl ?_) | (refine Qb ?_ ?_; focus kernel_rfl) | ((with_reducible refine And.intro ?_ ?_); focus omega) | (refine zAB hK ?_; clear hK K'; simp only [go_sem, *]) | (simp only [zAH, zAA, go_sem, *]))
  all_goals first | contradiction | omega | skip
  (refine ⟨[_], [], [], ⟨rfl, trivial⟩, ?_⟩; simp only [go_sem, *])
theorem zOV (p : Plan) (h1 : p.length ≤ 1048576) (h2 : ∀ l, l ∈ p → l.length ≤ 1048576) : Spec Tryz.prog 24 [zAO p] [] (zAO p) [] := by
 refine zAF Tryz.func24 rfl (fun E hE => ?_); simp only [go_sem, Tryz.ntmps24]
 repeat' (first | (show zAC ..; first | (refine Qr rfl ?_; try intro K' hK; try simp only [go_sem, *])) | (show Hold ..; first | refine Qh rfl ?_ | refine zAG rfl Tryz.mixed (by kernel_rfl) ?_ | (refine zAD rfl ⟨_, rfl, fun hb => ?_, fun hb => ?_⟩ <;> (have hc := hb; try simp only [go_sem] at hc)) | refine zAI rfl ?_) | (refine Qb ?_ ?_; focus kernel_rfl) | ((with_reducible refine And.intro ?_ ?_); focus omega) | (refine zAB hK ?_; clear hK K'; simp only [go_sem, *]) | (simp only [zAH, zAA, go_sem, *]))
 refine zAQ rfl (fun zn zN zenv zAs => ∃ (i : Nat), zn = (p.length) - i ∧ i ≤ (p.length) ∧ (NoP i) ∧ zN = 25 ∧ zenv = [(4, iV i), (1, .ptr 0 0), (2, .ptr 1 0), (3, .ptr 2 0)] ∧ zAs = [.box [.list (p.map zAM)], .box [nilV], .box [.own 3 1 0 i], .box ((p.take i).map zAM)]) (p.length) ⟨[some 0, some 1, some 2, none], [], _, _, _, (by (simp only [Weak, go_sem, List.map_append, List.map_set, *] <;> (try simp (disch := omega) only [zAE]) <;> (try simp) <;> (try omega))), 0, (by simp), (by simp), (by trivial), rfl, rfl, rfl⟩ ?_; rintro _ _ _ _ ⟨i, rfl, hi, hP, rfl, rfl, rfl⟩
 by_cases hi2 : i < p.length
 ·have hr := h2 _ (zAT hi2)
  have e := zAa (l := p) (i := i) hi2
  repeat' (first | (show zAC ..; first | (refine Qr rfl ?_; try intro K' hK; try simp only [go_sem, *])) | (show Hold ..; first | refine Qh rfl ?_ | refine zAG rfl Tryz.mixed (by kernel_rfl) ?_ | (refine zAD rfl ⟨_, rfl, fun hb => ?_, fun hb => ?_⟩ <;> (have hc := hb; try simp only [go_sem] at hc)) | refine zAI rfl ?_) | (with_reducible (show (∀ _ : AV, _ → _) ∧ _); refine And.intro ?_ ?_; (focus (intro y hy; first | (obtain ⟨z, _, rfl⟩ := List.mem_map.1 (hy); simp [go_sem]; done) | (obtain ⟨z, _, rfl⟩ := List.mem_map.1 (List.mem_of_mem_take hy); simp [go_sem]; done) | (obtain ⟨z, _, rfl⟩ := List.mem_map.1 (List.mem_of_mem_drop hy); simp [go_sem]; done) | (obtain ⟨z, _, rfl⟩ := List.mem_map.1 (List.mem_of_mem_drop (List.mem_of_mem_take hy)); simp [go_sem]; done)))) | (refine Qb ?_ ?_; focus kernel_rfl) | ((with_reducible refine And.intro ?_ ?_); focus omega) | (refine zAB hK ?_; clear hK K'; simp only [go_sem, *]) | (simp only [zAH, zAA, go_sem, *]))
  all_goals first | contradiction | omega | skip
  refine ⟨_, (by omega), [some 0, some 1, some 2, some 7], [5], _, _, _, (by (simp only [Weak, go_sem, List.map_append, List.map_set, *] <;> (try simp (disch := omega) only [zAE]) <;> (try simp) <;> (try omega))), i + 1, rfl, (by omega), (by trivial), rfl, rfl, rfl⟩
 ·have e : p.take i = p := List.take_of_length_le (by omega)
  repeat' (first | (show zAC ..; first | (refine Qr rfl ?_; try intro K' hK; try simp only [go_sem, *])) | (show Hold ..; first | refine Qh rfl ?_ | refine zAG rfl Tryz.mixed (by kernel_rfl) ?_ | (refine zAD rfl ⟨_, rfl, fun hb => ?_, fun hb => ?_⟩ <;> (have hc := hb; try simp only [go_sem] at hc)) | refine zAI rfl ?_) | (refine Qb ?_ ?_; focus kernel_rfl) | ((with_reducible refine And.intro ?_ ?_); focus omega) | (refine zAB hK ?_; clear hK K'; simp only [go_sem, *]) | (simp only [zAH, zAA, go_sem, *]))
  all_goals first | contradiction | omega | skip
  refine ⟨[.agg [.own 3 1 0 i]], [], [3], ⟨by simp only [zAY, go_sem], trivial⟩, ?_⟩
  simp only [go_sem, *]
  simp
  omega
end Go.Abs

