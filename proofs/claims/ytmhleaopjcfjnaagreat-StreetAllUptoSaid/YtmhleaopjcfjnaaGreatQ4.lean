/-
  WHAT THE PROOF STANDS ON, PART 4: contracts of the program's functions and the logic that they are proved in. No condition.
-/
import Derived.Test.YtmhleaopjcfjnaaGreatQ3
set_option maxRecDepth 100000
set_option maxHeartbeats 4000000
set_option linter.unusedVariables false
set_option linter.unusedSimpArgs false
set_option linter.unusedSectionVars false
namespace Go.Abs
open Go Go.Proofs
attribute [local irreducible] zAC Hold zAN
section
variable {α : Type} {a b : List α} {i : Nat}
theorem zEM (ha : a.length ≤ i) (hl : a.length = b.length) (h : a.take i = b.take i) : a = b := by
 rwa [List.take_of_length_le ha, List.take_of_length_le (by omega)] at h
variable [Inhabited α]
theorem zL6 {l : List α} (h : i < l.length) : l.take (i + 1) = l.take i ++ [l.getD i default] := by
 rw [List.take_add_one]; simp [List.getD, h]
theorem zCw (ha : i < a.length) (hb : i < b.length) (h : a.take i = b.take i) (e : a.getD i default = b.getD i default) : a.take (i + 1) = b.take (i + 1) := by
 rw [zL6 ha, zL6 hb, h, e]
theorem zHM (e : ¬ a.getD i default = b.getD i default) : ¬ a = b := fun h => e (by rw [h])
end
theorem zEA {α : Type} {a b : List α} (h : ¬ a.length = b.length) : ¬ a = b := fun e => h (by rw [e])
theorem zGH (a b : List Plate) (h1 : a.length ≤ 4294967296) : Spec Tryz.prog 146 [zAM a, zAM b] [] (bV (decide (a = b))) [] := by
 refine zAF Tryz.func146 rfl (fun E hE => ?_); simp only [go_sem, Tryz.ntmps146]
 repeat' (first | (show zAC ..; first | (refine Qr rfl ?_; try intro K' hK; try simp only [go_sem, *])) | (show Hold ..; first | refine Qh rfl ?_ | refine zAG rfl Tryz.mixed (by kernel_rfl) ?_ | (refine zAD rfl ⟨_, rfl, fun hb => ?_, fun hb => ?_⟩ <;> (have hc := hb; try simp only [go_sem] at hc)) | refine zAI rfl ?_) | (refine Qb ?_ ?_; focus kernel_rfl) | ((with_reducible refine And.intro ?_ ?_); focus omega) | (refine zAB hK ?_; clear hK K'; simp only [go_sem, *]) | (simp only [zAH, zAA, go_sem, *]))
 ·(refine ⟨[_], [], [], ⟨rfl, trivial⟩, ?_⟩; simp only [go_sem, *])
  simp [zEA (a := a) (b := b) (by assumption)]
 ·have hlb : a.length = b.length := by assumption
  refine zAQ rfl (fun zn zN zenv zAs => ∃ (i : Nat), zn = (b.length) - i ∧ i ≤ (b.length) ∧ (a.take i = b.take i) ∧ zN = 26 ∧ zenv = [(13, iV i), (12, iV b.length), (0, zAM a), (1, zAM b)] ∧ zAs = []) (b.length) ⟨[], [], _, _, _, (by (simp only [Weak, go_sem, List.map_append, List.map_set, *] <;> (try simp (disch := omega) only [zAE]) <;> (try simp) <;> (try omega))), 0, (by simp), (by simp), (by simp), rfl, rfl, rfl⟩ ?_; rintro _ _ _ _ ⟨i, rfl, hi, hP, rfl, rfl, rfl⟩
  repeat' (first | (show zAC ..; first | (refine Qr rfl ?_; try intro K' hK; try simp only [go_sem, *])) | (show Hold ..; first | refine Qh rfl ?_ | refine zAG rfl Tryz.mixed (by kernel_rfl) ?_ | (refine zAD rfl ⟨_, rfl, fun hb => ?_, fun hb => ?_⟩ <;> (have hc := hb; try simp only [go_sem] at hc)) | refine zAI rfl ?_) | (refine Qb ?_ ?_; focus kernel_rfl) | ((with_reducible refine And.intro ?_ ?_); focus omega) | (refine zAB hK ?_; clear hK K'; simp only [go_sem, *]) | (simp only [zAH, zAA, go_sem, *]))
  ·(refine ⟨[_], [], [], ⟨rfl, trivial⟩, ?_⟩; simp only [go_sem, *])
   simp [zHM (a := a) (b := b) (i := i) (by assumption)]
  ·refine ⟨_, (by omega), [], [], _, _, _, (by (simp only [Weak, go_sem, List.map_append, List.map_set, *] <;> (try simp (disch := omega) only [zAE]) <;> (try simp) <;> (try omega))), i + 1, rfl, (by omega), (by exact zCw (by omega) (by omega) hP (by assumption)), rfl, rfl, rfl⟩
  ·(refine ⟨[_], [], [], ⟨rfl, trivial⟩, ?_⟩; simp only [go_sem, *])
   simp [zEM (by omega) hlb hP]
theorem zIJ (a b : Plan) (h1 : a.length ≤ 4294967296) (hrl : ∀ l, l ∈ a → l.length ≤ 4294967296) : Spec Tryz.prog 145 [.list (a.map zAM), .list (b.map zAM), fnV 146] [] (bV (decide (a = b))) [] := by
 have hca : zAw Tryz.prog 146 = true := by kernel_rfl
 refine zAF Tryz.func145 rfl (fun E hE => ?_); simp only [go_sem, Tryz.ntmps145]
 repeat' (first | (show zAC ..; first | (refine Qr rfl ?_; try intro K' hK; try simp only [go_sem, *])) | (show Hold ..; first | refine Qh rfl ?_ | (refine zAD rfl ⟨_, rfl, fun hb => ?_, fun hb => ?_⟩ <;> (have hc := hb; try simp only [go_sem] at hc)) | refine zAI rfl ?_) | ((with_reducible refine And.intro ?_ ?_); focus omega) | (refine zAB hK ?_; clear hK K'; simp only [go_sem, *]) | (simp only [zAH, zAA, go_sem, *]))
 ·(refine ⟨[_], [], [], ⟨rfl, trivial⟩, ?_⟩; simp only [go_sem, *])
  simp [zEA (a := a) (b := b) (by assumption)]
 ·have hlb : a.length = b.length := by assumption
  refine zAQ rfl (fun zn zN zenv zAs => ∃ (i : Nat), zn = (b.length) - i ∧ i ≤ (b.length) ∧ (a.take i = b.take i) ∧ zN = 32 ∧ zenv = [(17, iV i), (16, iV b.length), (15, .list (a.map zAM)), (1, .list (b.map zAM)), (2, fnV 146)] ∧ zAs = []) (b.length) ⟨[], [], _, _, _, (by (simp only [Weak, go_sem, List.map_append, List.map_set, *] <;> (try simp (disch := omega) only [zAE]) <;> (try simp) <;> (try omega))), 0, (by simp), (by simp), (by simp), rfl, rfl, rfl⟩ ?_; rintro _ _ _ _ ⟨i, rfl, hi, hP, rfl, rfl, rfl⟩
  repeat' (first | (show zAC ..; first | (refine Qr rfl ?_; try intro K' hK; try simp only [go_sem, *])) | (show Hold ..; first | refine Qh rfl ?_ | (refine zAD rfl ⟨_, rfl, fun hb => ?_, fun hb => ?_⟩ <;> (have hc := hb; try simp only [go_sem] at hc)) | refine zAI rfl ?_) | (show zAN ..; first | (refine zAK (zGH (List.getD a i default) (List.getD b i default) (hrl _ (zAT (by omega)))) ?_ ?_; (focus (simp only [go_sem, *]; done)); simp only [go_sem, *])) | ((with_reducible refine And.intro ?_ ?_); focus omega) | (refine zAB hK ?_; clear hK K'; simp only [go_sem, *]) | (simp only [zAH, zAA, go_sem, *]))
  ·(refine ⟨[_], [], [], ⟨rfl, trivial⟩, ?_⟩; simp only [go_sem, *])
   simp [zHM (a := a) (b := b) (i := i) (by assumption)]
  ·refine ⟨_, (by omega), [], [], _, _, _, (by (simp only [Weak, go_sem, List.map_append, List.map_set, *] <;> (try simp (disch := omega) only [zAE]) <;> (try simp) <;> (try omega))), i + 1, rfl, (by omega), (by exact zCw (by omega) (by omega) hP (by assumption)), rfl, rfl, rfl⟩
  ·(refine ⟨[_], [], [], ⟨rfl, trivial⟩, ?_⟩; simp only [go_sem, *])
   simp [zEM (by omega) hlb hP]
theorem zN1 (a b : Plan) (h1 : a.length ≤ 4294967296) (hrl : ∀ l, l ∈ a → l.length ≤ 4294967296) : Spec Tryz.prog 111 [zAO a, zAO b] [] (bV (decide (a = b))) [] := by
 refine zAF Tryz.func111 rfl (fun E hE => ?_); simp only [go_sem, Tryz.ntmps111]
 repeat' (first | (show zAC ..; first | (refine Qr rfl ?_; try intro K' hK; try simp only [go_sem, *])) | (show Hold ..; first | refine Qh rfl ?_ | (refine zAD rfl ⟨_, rfl, fun hb => ?_, fun hb => ?_⟩ <;> (have hc := hb; try simp only [go_sem] at hc)) | refine zAI rfl ?_) | (show zAN ..; first | (refine zAK (zIJ a b h1 hrl) ?_ ?_; (focus (simp only [go_sem, *]; done)); simp only [go_sem, *])) | ((with_reducible refine And.intro ?_ ?_); focus omega) | (refine zAB hK ?_; clear hK K'; simp only [go_sem, *]) | (simp only [zAH, zAA, go_sem, *]))
 all_goals (refine ⟨[_], [], [], ⟨rfl, trivial⟩, ?_⟩; simp only [go_sem, *])
end Go.Abs

namespace Go.Abs
open Go Go.Proofs
attribute [local irreducible] zAC Hold zAN
def zBv (kind : Int) (p : Plan) (s : Nat) : List Change :=
 if kind = 4 then ((List.range p.length).filter (fun o => decide (o ≠ s))).map fun o => ⟨4, s, (o : Nat), zeroPlate, zeroPlate⟩
 else if kind = 5 ∨ kind = 6 then (p.getD s default).map fun x => ⟨kind, s, 0, x, zeroPlate⟩
 else [⟨kind, s, 0, zeroPlate, zeroPlate⟩]
def zAz (kind : Int) (p : Plan) (s : Nat) : List Change := (List.range' s (p.length - s)).flatMap (zBv kind p)
def zCO : Nat → Plan → List Change
 | 0, _ => []
 | m + 1, p => zAz (6 - (m : Nat)) p 0 ++ zCO m p
def zBA (p : Plan) : List Change := zCO 6 p
theorem zF6 {kind : Int} {p : Plan} {s : Nat} (h : s < p.length) : zAz kind p s = zBv kind p s ++ zAz kind p (s + 1) := by
 unfold zAz
 rw [show p.length - s = (p.length - (s + 1)) + 1 by omega, List.range'_succ, List.flatMap_cons]
theorem zGz {kind : Int} {p : Plan} {s : Nat} (h : p.length ≤ s) : zAz kind p s = [] := by
 unfold zAz
 rw [show p.length - s = 0 by omega]; rfl
theorem zIs {kind : Int} {p : Plan} (v : Valid p) (s : Nat) : (zBv kind p s).length ≤ 8 := by
 unfold zBv
 have := v.len
 have h := (v.row s).len
 unfold zAL at h
 split
 ·simp only [List.length_map]
  have := List.length_filter_le (fun o => decide (o ≠ s)) (List.range p.length)
  simp at this ⊢; omega
 ·split
  ·simpa using h
  ·simp
theorem zG0 {kind : Int} {p : Plan} (v : Valid p) (s : Nat) : (zAz kind p s).length ≤ 24 := by
 have key : ∀ n s, ((List.range' s n).flatMap (zBv kind p)).length ≤ n * 8 := by
  intro n
  induction n with
  | zero => intro s; simp
  | succ n ih => intro s; have := ih (s + 1); have := zIs (kind := kind) v s; simp only [List.range'_succ, List.flatMap_cons, List.length_append]; omega
 have := key (p.length - s) s
 have := v.len
 unfold zAz; omega
theorem zEa {p : Plan} (v : Valid p) : ∀ m, (zCO m p).length ≤ m * 24
 | 0 => by simp [zCO]
 | m + 1 => by
  have := zEa v m
  have := zG0 (kind := 6 - (m : Nat)) v 0
  simp only [zCO, List.length_append]; omega
def zBg (p : Plan) (s o : Nat) : List Change := ((List.range' o (p.length - o)).filter (fun o => decide (o ≠ s))).map fun o => ⟨4, s, (o : Nat), zeroPlate, zeroPlate⟩
theorem zHh {p : Plan} {s : Nat} : zBv 4 p s = zBg p s 0 := by simp [zBv, zBg, List.range_eq_range']
theorem zIy {p : Plan} {s o : Nat} (h : o < p.length) (e : o ≠ s) : zBg p s o = ⟨4, s, o, zeroPlate, zeroPlate⟩ :: zBg p s (o + 1) := by
 unfold zBg
 rw [show p.length - o = (p.length - (o + 1)) + 1 by omega, List.range'_succ, List.filter_cons, if_pos (by simpa using e), List.map_cons]
theorem zHv {p : Plan} {s o : Nat} (h : o < p.length) (e : o = s) : zBg p s o = zBg p s (o + 1) := by
 unfold zBg
 rw [show p.length - o = (p.length - (o + 1)) + 1 by omega, List.range'_succ, List.filter_cons, if_neg (by simpa using e)]
theorem zHu {p : Plan} {s o : Nat} (h : p.length ≤ o) : zBg p s o = [] := by
 unfold zBg
 rw [show p.length - o = 0 by omega]; rfl
theorem zHf {kind : Int} {p : Plan} {s : Nat} (h4 : ¬ kind = 4) (h : kind = 5 ∨ kind = 6) : zBv kind p s = (p.getD s default).map fun x => ⟨kind, s, 0, x, zeroPlate⟩ := by
 unfold zBv; rw [if_neg h4, if_pos h]
theorem zHg {kind : Int} {p : Plan} {s : Nat} (h4 : ¬ kind = 4) (h : ¬ (kind = 5 ∨ kind = 6)) : zBv kind p s = [⟨kind, s, 0, zeroPlate, zeroPlate⟩] := by
 unfold zBv; rw [if_neg h4, if_neg h]
theorem zKP (p : Plan) (v : Valid p) : Spec Tryz.prog 131 [zAO p] [] (.list ((zBA p).map Change.enc)) [] := by
 have hp3 := v.len
 have hgl := zEa v 6
 refine zAF Tryz.func131 rfl (fun E hE => ?_); simp only [go_sem, Tryz.ntmps131]
 repeat' (first | (show zAC ..; first | (refine Qr rfl ?_; try intro K' hK; try simp only [go_sem, *])) | (show Hold ..; first | refine Qh rfl ?_ | (refine zAD rfl ⟨_, rfl, fun hb => ?_, fun hb => ?_⟩ <;> (have hc := hb; try simp only [go_sem] at hc)) | refine zAI rfl ?_) | ((with_reducible refine And.intro ?_ ?_); focus omega) | (refine zAB hK ?_; clear hK K'; simp only [go_sem, *]) | (simp only [zAH, zAA, go_sem, *]))
 refine zAQ rfl (fun zn zN zenv zAs => ∃ (m : Nat) (acc : List Change), zn = (6) - m ∧ m ≤ (6) ∧ (acc ++ zCO (6 - m) p = zBA p) ∧ zN = 67 ∧ zenv = [(4, iV ((m : Int) + 1)), (3, .own 1 7 0 acc.length), (1, .ptr 0 0)] ∧ zAs = [pBox p, .row 7 (acc.map Change.enc)]) (6) ⟨[some 0, none], [], _, _, _, (by (simp only [Weak, go_sem, List.map_append, List.map_set, *] <;> (try simp (disch := omega) only [zAE]) <;> (try simp) <;> (try omega))), 0, [], (by simp), (by simp), (by rfl), rfl, rfl, rfl⟩ ?_; rintro _ _ _ _ ⟨m, acc, rfl, hm, hP, rfl, rfl, rfl⟩
 have hw : m < 6 → IntKind.i64.wrap ((m : Int) + 1 + 1) = (((m + 1 : Nat) : Int) + 1) := fun h => by rw [wrap_i64 (by omega) (by omega)]; omega
 have hm6 : ((m : Int) + 1 ≤ 6) = (m < 6) := by simp only [eq_iff_iff]; omega
 repeat' (first | (show zAC ..; first | (refine Qr rfl ?_; try intro K' hK; try simp only [go_sem, *])) | (show Hold ..; first | refine Qh rfl ?_ | (refine zAD rfl ⟨_, rfl, fun hb => ?_, fun hb => ?_⟩ <;> (have hc := hb; try simp only [go_sem] at hc)) | refine zAI rfl ?_) | ((with_reducible refine And.intro ?_ ?_); focus omega) | (refine zAB hK ?_; clear hK K'; simp only [go_sem, *]) | (simp only [zAH, zAA, go_sem, *]))
 ·have hm : m < 6 := by assumption
  obtain ⟨kk, hkk⟩ : ∃ kk : Int, kk = (m : Int) + 1 := ⟨_, rfl⟩
  have hstep : zCO (6 - m) p = zAz kk p 0 ++ zCO (6 - (m + 1)) p := by
   rw [show 6 - m = (6 - (m + 1)) + 1 by omega, zCO, hkk]
   congr 2
   omega
  rw [hstep] at hP
  have hw2 : IntKind.i64.wrap (kk + 1) = ((m + 1 : Nat) : Int) + 1 := by rw [hkk, hw hm]
  clear hw
  rw [← hkk] at *
  clear hstep
  refine zAQ rfl (fun zn zN zenv zAs => ∃ (s : Nat) (acc : List Change), zn = (p.length) - s ∧ s ≤ (p.length) ∧ (acc ++ (zAz kk p s ++ zCO (6 - (m + 1)) p) = zBA p) ∧ zN = 67 ∧ zenv = [(17, iV s), (16, iV p.length), (15, .list (p.map zAM)), (4, iV kk), (3, .own 1 7 0 acc.length), (1, .ptr 0 0)] ∧ zAs = [pBox p, .row 7 (acc.map Change.enc)]) (p.length) ⟨[some 0, some 1], [], _, _, _, (by (simp only [Weak, go_sem, List.map_append, List.map_set, *] <;> (try simp (disch := omega) only [zAE]) <;> (try simp) <;> (try omega))), 0, acc, (by simp), (by simp), (by exact hP), rfl, rfl, rfl⟩ ?_; rintro _ _ _ _ ⟨s, acc, rfl, hs, hQ, rfl, rfl, rfl⟩
  clear hP
  have hqle := congrArg List.length hQ
  simp only [List.length_append] at hqle
  unfold zBA at hqle
  by_cases hs : s < p.length
  ·rw [zF6 hs] at hQ
   have hrow : (p.getD s default).length ≤ 8 := (v.rows _ (zAT hs)).len
   by_cases k4 : kk = 4
   ·subst k4
    rw [zHh] at hQ
    repeat' (first | (show zAC ..; first | (refine Qr rfl ?_; try intro K' hK; try simp only [go_sem, *])) | (show Hold ..; first | refine Qh rfl ?_ | (refine zAD rfl ⟨_, rfl, fun hb => ?_, fun hb => ?_⟩ <;> (have hc := hb; try simp only [go_sem] at hc)) | refine zAI rfl ?_) | ((with_reducible refine And.intro ?_ ?_); focus omega) | (refine zAB hK ?_; clear hK K'; simp only [go_sem, *]) | (simp only [zAH, zAA, go_sem, *]))
    refine zAQ rfl (fun zn zN zenv zAs => ∃ (o : Nat) (acc : List Change), zn = (p.length) - o ∧ o ≤ (p.length) ∧ (acc ++ (zBg p s o ++ zAz 4 p (s + 1)) ++ zCO (6 - (m + 1)) p = zBA p) ∧ zN = 67 ∧ zenv = [(34, iV o), (33, iV p.length), (5, iV s), (17, iV s), (16, iV p.length), (15, .list (p.map zAM)), (4, iV 4), (3, .own 1 7 0 acc.length), (1, .ptr 0 0)] ∧ zAs = [pBox p, .row 7 (acc.map Change.enc)]) (p.length) ⟨[some 0, some 1], [], _, _, _, (by (simp only [Weak, go_sem, List.map_append, List.map_set, *] <;> (try simp (disch := omega) only [zAE]) <;> (try simp) <;> (try omega))), 0, acc, (by simp), (by simp), (by simpa using hQ), rfl, rfl, rfl⟩ ?_; rintro _ _ _ _ ⟨o, acc, rfl, ho, hR, rfl, rfl, rfl⟩
    clear hQ hqle
    have hqle := congrArg List.length hR
    simp only [List.length_append] at hqle
    unfold zBA at hqle
    repeat' (first | (show zAC ..; first | (refine Qr rfl ?_; try intro K' hK; try simp only [go_sem, *])) | (show Hold ..; first | refine Qh rfl ?_ | (refine zAD rfl ⟨_, rfl, fun hb => ?_, fun hb => ?_⟩ <;> (have hc := hb; try simp only [go_sem] at hc)) | refine zAI rfl ?_) | ((with_reducible refine And.intro ?_ ?_); focus omega) | (refine zAB hK ?_; clear hK K'; simp only [go_sem, *]) | (simp only [zAH, zAA, go_sem, *]))
    ·refine ⟨_, (by omega), [some 0, some 3], [], _, _, _, (by (simp only [Weak, go_sem, List.map_append, List.map_set, *] <;> (try simp (disch := omega) only [zAE]) <;> (try simp) <;> (try omega))), o + 1, acc ++ [⟨4, s, o, zeroPlate, zeroPlate⟩], rfl, (by omega), (by rw [← hR, zIy (o := o) (by assumption) (by omega)]; simp), rfl, rfl, rfl⟩
    ·refine ⟨_, (by omega), [some 0, some 1], [], _, _, _, (by (simp only [Weak, go_sem, List.map_append, List.map_set, *] <;> (try simp (disch := omega) only [zAE]) <;> (try simp) <;> (try omega))), o + 1, acc, rfl, (by omega), (by rw [← hR, zHv (o := o) (by assumption) (by omega)]), rfl, rfl, rfl⟩
    ·rw [zHu (by omega), List.nil_append] at hR
     refine ⟨_, (by omega), [some 0, some 1], [], _, _, _, (by (simp only [Weak, go_sem, List.map_append, List.map_set, *] <;> (try simp (disch := omega) only [zAE]) <;> (try simp) <;> (try omega))), s + 1, acc, rfl, (by omega), (by simpa using hR), rfl, rfl, rfl⟩
   ·by_cases k5 : kk = 5 ∨ kk = 6
    ·rw [zHf k4 k5] at hQ
     generalize hll : p.getD s default = l at *
     have hd : (kk == 4) = false := by simpa using k4
     rcases k5 with k5 | k5
     ·have h5 : (kk == 5) = true := by simp [k5]
      clear k5
      repeat' (first | (show zAC ..; first | (refine Qr rfl ?_; try intro K' hK; try simp only [go_sem, *])) | (show Hold ..; first | refine Qh rfl ?_ | (refine zAD rfl ⟨_, rfl, fun hb => ?_, fun hb => ?_⟩ <;> (have hc := hb; try simp only [go_sem] at hc)) | refine zAI rfl ?_) | ((with_reducible refine And.intro ?_ ?_); focus omega) | (refine zAB hK ?_; clear hK K'; simp only [go_sem, *]) | (simp only [zAH, zAA, go_sem, *]))
      refine zAQ rfl (fun zn zN zenv zAs => ∃ (o : Nat) (acc : List Change), zn = (l.length) - o ∧ o ≤ (l.length) ∧ (acc ++ ((l.drop o).map (fun x => (⟨kk, s, 0, x, zeroPlate⟩ : Change)) ++ zAz kk p (s + 1)) ++ zCO (6 - (m + 1)) p = zBA p) ∧ zN = 67 ∧ zenv = [(53, iV o), (52, iV l.length), (51, zAM l), (5, iV s), (17, iV s), (16, iV p.length), (15, .list (p.map zAM)), (4, iV kk), (3, .own 1 7 0 acc.length), (1, .ptr 0 0)] ∧ zAs = [pBox p, .row 7 (acc.map Change.enc)]) (l.length) ⟨[some 0, some 1], [], _, _, _, (by (simp only [Weak, go_sem, List.map_append, List.map_set, *] <;> (try simp (disch := omega) only [zAE]) <;> (try simp) <;> (try omega))), 0, acc, (by simp), (by simp), (by simpa using hQ), rfl, rfl, rfl⟩ ?_; rintro _ _ _ _ ⟨o, acc, rfl, ho, hR, rfl, rfl, rfl⟩
      clear hQ hqle
      have hqle := congrArg List.length hR
      simp only [List.length_append] at hqle
      unfold zBA at hqle
      repeat' (first | (show zAC ..; first | (refine Qr rfl ?_; try intro K' hK; try simp only [go_sem, *])) | (show Hold ..; first | refine Qh rfl ?_ | (refine zAD rfl ⟨_, rfl, fun hb => ?_, fun hb => ?_⟩ <;> (have hc := hb; try simp only [go_sem] at hc)) | refine zAI rfl ?_) | ((with_reducible refine And.intro ?_ ?_); focus omega) | (refine zAB hK ?_; clear hK K'; simp only [go_sem, *]) | (simp only [zAH, zAA, go_sem, *]))
      ·have ed : l.drop o = l.getD o default :: l.drop (o + 1) := zAS (by assumption)
       refine ⟨_, (by omega), [some 0, some 4], [], _, _, _, (by (simp only [Weak, go_sem, List.map_append, List.map_set, *] <;> (try simp (disch := omega) only [zAE]) <;> (try simp) <;> (try omega))), o + 1, acc ++ [⟨kk, s, 0, l.getD o default, zeroPlate⟩], rfl, (by omega), (by rw [← hR, ed]; simp), rfl, rfl, rfl⟩
      ·rw [zAX (by omega), List.map_nil, List.nil_append] at hR
       refine ⟨_, (by omega), [some 0, some 1], [], _, _, _, (by (simp only [Weak, go_sem, List.map_append, List.map_set, *] <;> (try simp (disch := omega) only [zAE]) <;> (try simp) <;> (try omega))), s + 1, acc, rfl, (by omega), (by simpa using hR), rfl, rfl, rfl⟩
     ·have h5 : (kk == 5) = false := by simp [k5]
      have h6 : (kk == 6) = true := by simp [k5]
      clear k5
      repeat' (first | (show zAC ..; first | (refine Qr rfl ?_; try intro K' hK; try simp only [go_sem, *])) | (show Hold ..; first | refine Qh rfl ?_ | (refine zAD rfl ⟨_, rfl, fun hb => ?_, fun hb => ?_⟩ <;> (have hc := hb; try simp only [go_sem] at hc)) | refine zAI rfl ?_) | ((with_reducible refine And.intro ?_ ?_); focus omega) | (refine zAB hK ?_; clear hK K'; simp only [go_sem, *]) | (simp only [zAH, zAA, go_sem, *]))
      refine zAQ rfl (fun zn zN zenv zAs => ∃ (o : Nat) (acc : List Change), zn = (l.length) - o ∧ o ≤ (l.length) ∧ (acc ++ ((l.drop o).map (fun x => (⟨kk, s, 0, x, zeroPlate⟩ : Change)) ++ zAz kk p (s + 1)) ++ zCO (6 - (m + 1)) p = zBA p) ∧ zN = 67 ∧ zenv = [(53, iV o), (52, iV l.length), (51, zAM l), (5, iV s), (17, iV s), (16, iV p.length), (15, .list (p.map zAM)), (4, iV kk), (3, .own 1 7 0 acc.length), (1, .ptr 0 0)] ∧ zAs = [pBox p, .row 7 (acc.map Change.enc)]) (l.length) ⟨[some 0, some 1], [], _, _, _, (by (simp only [Weak, go_sem, List.map_append, List.map_set, *] <;> (try simp (disch := omega) only [zAE]) <;> (try simp) <;> (try omega))), 0, acc, (by simp), (by simp), (by simpa using hQ), rfl, rfl, rfl⟩ ?_; rintro _ _ _ _ ⟨o, acc, rfl, ho, hR, rfl, rfl, rfl⟩
      clear hQ hqle
      have hqle := congrArg List.length hR
      simp only [List.length_append] at hqle
      unfold zBA at hqle
      repeat' (first | (show zAC ..; first | (refine Qr rfl ?_; try intro K' hK; try simp only [go_sem, *])) | (show Hold ..; first | refine Qh rfl ?_ | (refine zAD rfl ⟨_, rfl, fun hb => ?_, fun hb => ?_⟩ <;> (have hc := hb; try simp only [go_sem] at hc)) | refine zAI rfl ?_) | ((with_reducible refine And.intro ?_ ?_); focus omega) | (refine zAB hK ?_; clear hK K'; simp only [go_sem, *]) | (simp only [zAH, zAA, go_sem, *]))
      ·have ed : l.drop o = l.getD o default :: l.drop (o + 1) := zAS (by assumption)
       refine ⟨_, (by omega), [some 0, some 4], [], _, _, _, (by (simp only [Weak, go_sem, List.map_append, List.map_set, *] <;> (try simp (disch := omega) only [zAE]) <;> (try simp) <;> (try omega))), o + 1, acc ++ [⟨kk, s, 0, l.getD o default, zeroPlate⟩], rfl, (by omega), (by rw [← hR, ed]; simp), rfl, rfl, rfl⟩
      ·rw [zAX (by omega), List.map_nil, List.nil_append] at hR
       refine ⟨_, (by omega), [some 0, some 1], [], _, _, _, (by (simp only [Weak, go_sem, List.map_append, List.map_set, *] <;> (try simp (disch := omega) only [zAE]) <;> (try simp) <;> (try omega))), s + 1, acc, rfl, (by omega), (by simpa using hR), rfl, rfl, rfl⟩
    ·rw [zHg k4 k5] at hQ
     have h4 : (kk == 4) = false := by simpa using k4
     have h5 : (kk == 5) = false := by simp only [not_or] at k5; simpa using k5.1
     have h6 : (kk == 6) = false := by simp only [not_or] at k5; simpa using k5.2
     repeat' (first | (show zAC ..; first | (refine Qr rfl ?_; try intro K' hK; try simp only [go_sem, *])) | (show Hold ..; first | refine Qh rfl ?_ | (refine zAD rfl ⟨_, rfl, fun hb => ?_, fun hb => ?_⟩ <;> (have hc := hb; try simp only [go_sem] at hc)) | refine zAI rfl ?_) | ((with_reducible refine And.intro ?_ ?_); focus omega) | (refine zAB hK ?_; clear hK K'; simp only [go_sem, *]) | (simp only [zAH, zAA, go_sem, *]))
     refine ⟨_, (by omega), [some 0, some 3], [], _, _, _, (by (simp only [Weak, go_sem, List.map_append, List.map_set, *] <;> (try simp (disch := omega) only [zAE]) <;> (try simp) <;> (try omega))), s + 1, acc ++ [⟨kk, s, 0, zeroPlate, zeroPlate⟩], rfl, (by omega), (by simpa using hQ), rfl, rfl, rfl⟩
  ·repeat' (first | (show zAC ..; first | (refine Qr rfl ?_; try intro K' hK; try simp only [go_sem, *])) | (show Hold ..; first | refine Qh rfl ?_ | (refine zAD rfl ⟨_, rfl, fun hb => ?_, fun hb => ?_⟩ <;> (have hc := hb; try simp only [go_sem] at hc)) | refine zAI rfl ?_) | ((with_reducible refine And.intro ?_ ?_); focus omega) | (refine zAB hK ?_; clear hK K'; simp only [go_sem, *]) | (simp only [zAH, zAA, go_sem, *]))
   rw [zGz (by omega), List.nil_append] at hQ
   refine ⟨_, (by omega), [some 0, some 1], [], _, _, _, (by (simp only [Weak, go_sem, List.map_append, List.map_set, *] <;> (try simp (disch := omega) only [zAE]) <;> (try simp) <;> (try omega))), m + 1, acc, rfl, (by omega), (by exact hQ), rfl, rfl, rfl⟩
 ·refine ⟨[_], [], [1], ⟨rfl, trivial⟩, ?_⟩
  have h6 : 6 - m = 0 := by omega
  rw [h6] at hP
  simp only [zCO, List.append_nil] at hP
  simp only [go_sem, hP, *]
  simp
end Go.Abs

namespace Go.Abs
open Go Go.Proofs
attribute [local irreducible] zAC Hold zAN
theorem zCJ {α β : Type} (f : α → List β) (p : β → Bool) : ∀ l : List α, (l.flatMap f).filter p = l.flatMap fun a => (f a).filter p
 | [] => rfl
 | a :: r => by simp only [List.flatMap_cons, List.filter_append, zCJ f p r]
theorem zCZ {α β : Type} {f g : α → List β} : ∀ {l : List α}, (∀ a, a ∈ l → f a = g a) → l.flatMap f = l.flatMap g
 | [], _ => rfl
 | a :: r, h => by
  have e1 := h a (by simp)
  have e2 := zCZ (l := r) (fun b hb => h b (by simp [hb]))
  rw [List.flatMap_cons, List.flatMap_cons, e1, e2]
theorem zHQ {p : Plan} {s : Int} : can p ⟨4, s, s, zeroPlate, zeroPlate⟩ ≠ 0 := by
 unfold can
 simp only
 split
 ·omega
 split
 ·omega
 split
 ·omega
 rw [if_pos (by simp)]; omega
theorem zF5 (kind : Int) (p : Plan) (s : Nat) : (zBv kind p s).filter (fun c => decide (can p c = 0)) = (zFS kind p s).filter (fun c => decide (can p c = 0)) := by
 unfold zBv zFS
 split
 ·rw [List.filter_map, List.filter_map, List.filter_filter]
  congr 1
  refine List.filter_congr (fun o _ => ?_)
  simp only [Function.comp]
  by_cases e : o = s
  ·subst e
   have := @zHQ p (o : Int)
   simp [this]
  ·simp [e]
 ·rfl
theorem zKz (p : Plan) : zBA p = ([1, 2, 3, 4, 5, 6] : List Int).flatMap fun k => zAz k p 0 := by
 simp [zBA, zCO]
theorem zHR (p : Plan) : zFT p = (zBA p).filter (fun c => decide (can p c = 0)) := by
 rw [zKz, zCJ]
 unfold zFT
 refine zCZ (fun k _ => ?_)
 unfold zAz
 rw [zCJ, Nat.sub_zero, ← List.range_eq_range']
 exact zCZ (fun s _ => (zF5 k p s).symm)
theorem zEt {α β : Type} {f : α → Option β} : ∀ {l : List α} {b : β}, zAu f l = some b → ∃ a, a ∈ l ∧ f a = some b
 | [], _, h => by simp [zAu] at h
 | a :: r, b, h => by
  rw [zAu] at h
  cases e : f a with
  | some x => rw [e] at h; simp only [Option.some.injEq] at h; subst h; exact ⟨a, by simp, e⟩
  | none =>
   rw [e] at h
   obtain ⟨c, hc1, hc2⟩ := zEt h
   exact ⟨c, by simp [hc1], hc2⟩
theorem zGT : ∀ {n : Nat} {p q : Plan} {l : List Change}, zBS n p q = some l → l.length ≤ n
 | 0, p, q, l, h => by
  unfold zBS at h
  split at h
  ·simp at h; subst h; simp
  ·simp at h
 | n + 1, p, q, l, h => by
  rw [zBS] at h
  obtain ⟨c, _, h2⟩ := zEt h
  cases e : zBS n (zAk p c) q with
  | none => rw [e] at h2; simp at h2
  | some r =>
   rw [e] at h2
   simp at h2
   subst h2
   have := zGT e
   simp; omega
def optL (o : Option (List Change)) : List Change := o.getD []
@[go_sem] theorem zPe (l : List Change) : optL (some l) = l := rfl
@[go_sem] theorem zPd : optL none = [] := rfl
theorem zLx : ∀ (n : Nat), n ≤ 2 → ∀ (p q : Plan), Valid p → Spec Tryz.prog 96 [zAO p, zAO q, iV n] [] (.tup [.list ((optL (zBS n p q)).map Change.enc), bV (zBS n p q).isSome]) []
 | 0, _, p, q, v => by
  have e1 : (zBS 0 p q).isSome = decide (p = q) := by unfold zBS; split <;> simp [*]
  have e2 : optL (zBS 0 p q) = [] := by unfold zBS; split <;> rfl
  refine zAF Tryz.func96 rfl (fun E hE => ?_); simp only [go_sem, Tryz.ntmps96]
  repeat' (first | (show zAC ..; first | (refine Qr rfl ?_; try intro K' hK; try simp only [go_sem, *])) | (show Hold ..; first | refine Qh rfl ?_ | refine zAG rfl Tryz.mixed (by kernel_rfl) ?_ | (refine zAD rfl ⟨_, rfl, fun hb => ?_, fun hb => ?_⟩ <;> (have hc := hb; try simp only [go_sem] at hc)) | refine zAI rfl ?_) | (refine Qb ?_ ?_; focus kernel_rfl) | (show zAN ..; first | (refine zAK (zN1 p q (by have := v.len; omega) (fun l hl => by have := (v.rows l hl).len; omega)) ?_ ?_; (focus (simp only [go_sem, *]; done)); simp only [go_sem, *])) | ((with_reducible refine And.intro ?_ ?_); focus omega) | (refine zAB hK ?_; clear hK K'; simp only [go_sem, *]) | (simp only [zAH, zAA, go_sem, *]))
  (refine ⟨[_, _], [], [], ⟨rfl, rfl, trivial⟩, ?_⟩; simp only [go_sem, *])
 | n + 1, hn, p, q, v => by
  have IH := zLx n (by omega)
  have hw : IntKind.i64.wrap (((n + 1 : Nat) : Int) - 1) = (n : Int) := by rw [wrap_i64 (by omega) (by omega)]; omega
  have hn0 : (((n + 1 : Nat) : Int) == 0) = false := by simp; omega
  have hgl := zEa v 6
  have hglL : (zBA p).length ≤ 144 := hgl
  have hG : zBS (n + 1) p q = zAu (fun c => (zBS n (zAk p c) q).map (c :: ·)) ((zBA p).filter (fun c => decide (can p c = 0))) := by
   rw [zBS, zHR]
  obtain ⟨G, hGe⟩ : ∃ G, G = zBS (n + 1) p q := ⟨_, rfl⟩
  rw [← hGe] at hG ⊢
  clear hGe
  have hG0 : zAu (fun c => (zBS n (zAk p c) q).map (c :: ·)) (((zBA p).drop 0).filter (fun c => decide (can p c = 0))) = G := hG.symm
  clear hG
  refine zAF Tryz.func96 rfl (fun E hE => ?_); simp only [go_sem, Tryz.ntmps96]
  repeat' (first | (show zAC ..; first | (refine Qr rfl ?_; try intro K' hK; try simp only [go_sem, *])) | (show Hold ..; first | refine Qh rfl ?_ | refine zAG rfl Tryz.mixed (by kernel_rfl) ?_ | (refine zAD rfl ⟨_, rfl, fun hb => ?_, fun hb => ?_⟩ <;> (have hc := hb; try simp only [go_sem] at hc)) | refine zAI rfl ?_) | (refine Qb ?_ ?_; focus kernel_rfl) | (show zAN ..; first | (refine zAK (zKP p v) ?_ ?_; (focus (simp only [go_sem, *]; done)); simp only [go_sem, *])) | ((with_reducible refine And.intro ?_ ?_); focus omega) | (refine zAB hK ?_; clear hK K'; simp only [go_sem, *]) | (simp only [zAH, zAA, go_sem, *]))
  refine zAQ rfl (fun zn zN zenv zAs => ∃ (i : Nat), zn = ((zBA p).length) - i ∧ i ≤ ((zBA p).length) ∧ (zAu (fun c => (zBS n (zAk p c) q).map (c :: ·)) (((zBA p).drop i).filter (fun c => decide (can p c = 0))) = G) ∧ zN = 52 ∧ zenv = [(22, iV i), (21, iV (zBA p).length), (20, .list ((zBA p).map Change.enc)), (2, iV (n + 1 : Nat)), (3, .ptr 0 0), (4, .ptr 1 0)] ∧ zAs = [pBox p, pBox q]) ((zBA p).length) ⟨[some 0, some 1], [], _, _, _, (by (simp only [Weak, go_sem, List.map_append, List.map_set, *] <;> (try simp (disch := omega) only [zAE]) <;> (try simp) <;> (try omega))), 0, (by simp), (by simp), (by exact hG0), rfl, rfl, rfl⟩ ?_; rintro _ _ _ _ ⟨i, rfl, hi, hP, rfl, rfl, rfl⟩
  by_cases hi2 : i < (zBA p).length
  ·obtain ⟨s1, s2⟩ := zCv p ((zBA p).getD i default) v
   rw [zAS hi2] at hP
   by_cases hcan : can p ((zBA p).getD i default) = 0
   ·have s := s2 hcan
    have f := Fit.of_can hcan
    have sa := zHI p _ v f
    have sr := IH (zAk p ((zBA p).getD i default)) q (zFz v f)
    rw [List.filter_cons, if_pos (by simpa using hcan)] at hP
    clear s1 s2 hcan IH
    repeat' (first | (show zAC ..; first | (refine Qr rfl ?_; try intro K' hK; try simp only [go_sem, *])) | (show Hold ..; first | refine Qh rfl ?_ | refine zAG rfl Tryz.mixed (by kernel_rfl) ?_ | (refine zAD rfl ⟨_, rfl, fun hb => ?_, fun hb => ?_⟩ <;> (have hc := hb; try simp only [go_sem] at hc)) | refine zAI rfl ?_) | (refine Qb ?_ ?_; focus kernel_rfl) | (show zAN ..; first | (refine zAl (s) ?_ ?_ ?_ ?_; (focus (simp only [go_sem, *]; done)); (focus (first | (simp; done) | (simp [go_sem]; done))); (focus (first | (simp; done) | (simp [go_sem]; done))); simp only [go_sem, *])) | ((with_reducible refine And.intro ?_ ?_); focus omega) | (refine zAB hK ?_; clear hK K'; simp only [go_sem, *]) | (simp only [zAH, zAA, go_sem, *]))
    refine zBG (gone := [3]) sa (by simp only [go_sem]) (by simp only [go_sem]) (by simp only [go_sem]) (by simp) (by simp) ?_
    simp only [go_sem, zA9]
    cases hgn : zBS n (zAk p ((zBA p).getD i default)) q with
    | none =>
     rw [hgn] at sr
     rw [zAu, hgn] at hP
     simp only [Option.map_none] at hP
     repeat' (first | (show zAC ..; first | (refine Qr rfl ?_; try intro K' hK; try simp only [go_sem, *])) | (show Hold ..; first | refine Qh rfl ?_ | refine zAG rfl Tryz.mixed (by kernel_rfl) ?_ | (refine zAD rfl ⟨_, rfl, fun hb => ?_, fun hb => ?_⟩ <;> (have hc := hb; try simp only [go_sem] at hc)) | refine zAI rfl ?_) | (refine Qb ?_ ?_; focus kernel_rfl) | (show zAN ..; first | (refine zAK (sr) ?_ ?_; (focus (simp only [go_sem, *]; done)); simp only [go_sem, *])) | ((with_reducible refine And.intro ?_ ?_); focus omega) | (refine zAB hK ?_; clear hK K'; simp only [go_sem, *]) | (simp only [zAH, zAA, go_sem, *]))
     all_goals first | contradiction | skip
     refine ⟨_, (by omega), [some 0, some 1], [], _, _, _, (by (simp only [Weak, go_sem, List.map_append, List.map_set, *] <;> (try simp (disch := omega) only [zAE]) <;> (try simp) <;> (try omega))), i + 1, rfl, (by omega), (by exact hP), rfl, rfl, rfl⟩
    | some l =>
     rw [hgn] at sr
     rw [zAu, hgn] at hP
     simp only [Option.map_some] at hP
     have hll := zGT hgn
     subst hP
     repeat' (first | (show zAC ..; first | (refine Qr rfl ?_; try intro K' hK; try simp only [go_sem, *])) | (show Hold ..; first | refine Qh rfl ?_ | refine zAG rfl Tryz.mixed (by kernel_rfl) ?_ | (refine zAD rfl ⟨_, rfl, fun hb => ?_, fun hb => ?_⟩ <;> (have hc := hb; try simp only [go_sem] at hc)) | refine zAI rfl ?_) | (refine Qb ?_ ?_; focus kernel_rfl) | (show zAN ..; first | (refine zAK (sr) ?_ ?_; (focus (simp only [go_sem, *]; done)); simp only [go_sem, *])) | ((with_reducible refine And.intro ?_ ?_); focus omega) | (refine zAB hK ?_; clear hK K'; simp only [go_sem, *]) | (simp only [zAH, zAA, go_sem, *]))
     all_goals first | contradiction | skip
     refine ⟨fun y hy => ?_, fun y hy => ?_, by omega, Nat.le_trans (by omega) (by decide : 3 ≤ 9223372036854775807), ?_⟩
     ·obtain ⟨c, _, rfl⟩ := List.mem_map.1 hy
      simp [Change.enc, go_sem]
     ·obtain ⟨c, _, rfl⟩ := List.mem_map.1 hy
      simp [Change.enc, go_sem]
     ·repeat' (first | (show zAC ..; first | (refine Qr rfl ?_; try intro K' hK; try simp only [go_sem, *])) | (show Hold ..; first | refine Qh rfl ?_ | refine zAG rfl Tryz.mixed (by kernel_rfl) ?_ | (refine zAD rfl ⟨_, rfl, fun hb => ?_, fun hb => ?_⟩ <;> (have hc := hb; try simp only [go_sem] at hc)) | refine zAI rfl ?_) | (refine Qb ?_ ?_; focus kernel_rfl) | ((with_reducible refine And.intro ?_ ?_); focus omega) | (refine zAB hK ?_; clear hK K'; simp only [go_sem, *]) | (simp only [zAH, zAA, go_sem, *]))
      refine ⟨[_, _], [], [5], ⟨rfl, rfl, trivial⟩, ?_⟩
      simp only [go_sem, *]
      simp [Nat.add_comm, Change.enc, List.take_of_length_le]
   ·have s := s1 hcan
    rw [List.filter_cons, if_neg (by simpa using hcan)] at hP
    clear s1 s2 IH
    repeat' (first | (show zAC ..; first | (refine Qr rfl ?_; try intro K' hK; try simp only [go_sem, *])) | (show Hold ..; first | refine Qh rfl ?_ | refine zAG rfl Tryz.mixed (by kernel_rfl) ?_ | (refine zAD rfl ⟨_, rfl, fun hb => ?_, fun hb => ?_⟩ <;> (have hc := hb; try simp only [go_sem] at hc)) | refine zAI rfl ?_) | (refine Qb ?_ ?_; focus kernel_rfl) | (show zAN ..; first | (refine zAK (s) ?_ ?_; (focus (simp only [go_sem, *]; done)); simp only [go_sem, *])) | ((with_reducible refine And.intro ?_ ?_); focus omega) | (refine zAB hK ?_; clear hK K'; simp only [go_sem, *]) | (simp only [zAH, zAA, go_sem, *]))
    all_goals first | contradiction | skip
    refine ⟨_, (by omega), [some 0, some 1], [], _, _, _, (by (simp only [Weak, go_sem, List.map_append, List.map_set, *] <;> (try simp (disch := omega) only [zAE]) <;> (try simp) <;> (try omega))), i + 1, rfl, (by omega), (by exact hP), rfl, rfl, rfl⟩
  ·rw [zAX (by omega), List.filter_nil, zAu] at hP
   subst hP
   repeat' (first | (show zAC ..; first | (refine Qr rfl ?_; try intro K' hK; try simp only [go_sem, *])) | (show Hold ..; first | refine Qh rfl ?_ | refine zAG rfl Tryz.mixed (by kernel_rfl) ?_ | (refine zAD rfl ⟨_, rfl, fun hb => ?_, fun hb => ?_⟩ <;> (have hc := hb; try simp only [go_sem] at hc)) | refine zAI rfl ?_) | (refine Qb ?_ ?_; focus kernel_rfl) | ((with_reducible refine And.intro ?_ ?_); focus omega) | (refine zAB hK ?_; clear hK K'; simp only [go_sem, *]) | (simp only [zAH, zAA, go_sem, *]))
   (refine ⟨[_, _], [], [], ⟨rfl, rfl, trivial⟩, ?_⟩; simp only [go_sem, *])
   all_goals simp
def zBf (p q : Plan) : Int :=
 if check p = 0 then if check q = 0 then if p.length = q.length then if (zEb p q).isSome then 0 else 11 else 11 else check q else check p
theorem zGI (p q : Plan) (h1 : check p = 0) (h2 : check q = 0) (h3 : p.length = q.length) (G : Option (List Change)) (hG : zAu (fun n => zBS n p q) ([0, 1, 2].drop 0) = G) :
  Spec Tryz.prog 31 [zAO p, zAO q] [] (.tup [.list ((optL G).map Change.enc), iV (if G.isSome = true then 0 else 11)]) [] := by
 have v := (zBY p).1 h1
 have w := (zBY q).1 h2
 have s1 := zBn p (by have := v.len; omega)
 have s2 := zBn q (by have := w.len; omega)
 have s3 := fun n hn => zLx n hn p q v
 rw [h1] at s1
 rw [h2] at s2
 clear h1 h2 w
 refine zAF Tryz.func31 rfl (fun E hE => ?_); simp only [go_sem, Tryz.ntmps31]
 repeat' (first | (show zAC ..; first | (refine Qr rfl ?_; try intro K' hK; try simp only [go_sem, *])) | (show Hold ..; first | refine Qh rfl ?_ | (refine zAD rfl ⟨_, rfl, fun hb => ?_, fun hb => ?_⟩ <;> (have hc := hb; try simp only [go_sem] at hc)) | refine zAI rfl ?_) | (show zAN ..; first | ((first | refine zAK (s1) ?_ ?_ | refine zAK (s2) ?_ ?_); (focus (simp only [go_sem, *]; done)); simp only [go_sem, *])) | ((with_reducible refine And.intro ?_ ?_); focus omega) | (refine zAB hK ?_; clear hK K'; simp only [go_sem, *]) | (simp only [zAH, zAA, go_sem, *]))
 refine zAQ rfl (fun zn zN zenv zAs => ∃ (i : Nat), zn = (3) - i ∧ i ≤ (3) ∧ (zAu (fun n => zBS n p q) ([0, 1, 2].drop i) = G) ∧ zN = 41 ∧ zenv = [(28, iV i), (2, .ptr 0 0), (3, .ptr 1 0)] ∧ zAs = [pBox p, pBox q]) (3) ⟨[some 0, some 1], [], _, _, _, (by (simp only [Weak, go_sem, List.map_append, List.map_set, *] <;> (try simp (disch := omega) only [zAE]) <;> (try simp) <;> (try omega))), 0, (by simp), (by simp), (by exact hG), rfl, rfl, rfl⟩ ?_; rintro _ _ _ _ ⟨i, rfl, hi, hP, rfl, rfl, rfl⟩
 by_cases hi2 : i < 3
 ·have s := s3 i (by omega)
  have hi3 : (i : Int) < 3 := by omega
  have hd : ([0, 1, 2] : List Nat).drop i = i :: [0, 1, 2].drop (i + 1) := by
   match i, hi2 with
   | 0, _ => rfl
   | 1, _ => rfl
   | 2, _ => rfl
  rw [hd, zAu] at hP
  cases hgn : zBS i p q with
  | none =>
   rw [hgn] at s hP
   simp only at hP
   repeat' (first | (show zAC ..; first | (refine Qr rfl ?_; try intro K' hK; try simp only [go_sem, *])) | (show Hold ..; first | refine Qh rfl ?_ | (refine zAD rfl ⟨_, rfl, fun hb => ?_, fun hb => ?_⟩ <;> (have hc := hb; try simp only [go_sem] at hc)) | refine zAI rfl ?_) | (show zAN ..; first | (refine zAK (s) ?_ ?_; (focus (simp only [go_sem, *]; done)); simp only [go_sem, *])) | ((with_reducible refine And.intro ?_ ?_); focus omega) | (refine zAB hK ?_; clear hK K'; simp only [go_sem, *]) | (simp only [zAH, zAA, go_sem, *]))
   all_goals first | contradiction | skip
   refine ⟨_, (by omega), [some 0, some 1], [], _, _, _, (by (simp only [Weak, go_sem, List.map_append, List.map_set, *] <;> (try simp (disch := omega) only [zAE]) <;> (try simp) <;> (try omega))), i + 1, rfl, (by omega), (by exact hP), rfl, rfl, rfl⟩
  | some l =>
   rw [hgn] at s hP
   simp only at hP
   subst hP
   repeat' (first | (show zAC ..; first | (refine Qr rfl ?_; try intro K' hK; try simp only [go_sem, *])) | (show Hold ..; first | refine Qh rfl ?_ | (refine zAD rfl ⟨_, rfl, fun hb => ?_, fun hb => ?_⟩ <;> (have hc := hb; try simp only [go_sem] at hc)) | refine zAI rfl ?_) | (show zAN ..; first | (refine zAK (s) ?_ ?_; (focus (simp only [go_sem, *]; done)); simp only [go_sem, *])) | ((with_reducible refine And.intro ?_ ?_); focus omega) | (refine zAB hK ?_; clear hK K'; simp only [go_sem, *]) | (simp only [zAH, zAA, go_sem, *]))
   all_goals first | contradiction | skip
   (refine ⟨[_, _], [], [], ⟨rfl, rfl, trivial⟩, ?_⟩; simp only [go_sem, *])
 ·have hi3 : ¬ (i : Int) < 3 := by omega
  rw [show ([0, 1, 2] : List Nat).drop i = [] from List.drop_of_length_le (by simp; omega), zAu] at hP
  subst hP
  repeat' (first | (show zAC ..; first | (refine Qr rfl ?_; try intro K' hK; try simp only [go_sem, *])) | (show Hold ..; first | refine Qh rfl ?_ | (refine zAD rfl ⟨_, rfl, fun hb => ?_, fun hb => ?_⟩ <;> (have hc := hb; try simp only [go_sem] at hc)) | refine zAI rfl ?_) | ((with_reducible refine And.intro ?_ ?_); focus omega) | (refine zAB hK ?_; clear hK K'; simp only [go_sem, *]) | (simp only [zAH, zAA, go_sem, *]))
  (refine ⟨[_, _], [], [], ⟨rfl, rfl, trivial⟩, ?_⟩; simp only [go_sem, *])
  all_goals simp
theorem zMh (p q : Plan) (hp : p.length ≤ 4294967296) (hq : q.length ≤ 4294967296) :
  Spec Tryz.prog 31 [zAO p, zAO q] [] (.tup [.list ((optL (if zBf p q = 0 then zEb p q else none)).map Change.enc), iV (zBf p q)]) [] := by
 by_cases h1 : check p = 0
 ·by_cases h2 : check q = 0
  ·by_cases h3 : p.length = q.length
   ·have s := zGI p q h1 h2 h3 (zEb p q) rfl
    have e : zBf p q = if (zEb p q).isSome = true then 0 else 11 := by simp [zBf, h1, h2, h3]
    rw [e]
    cases hg : zEb p q with
    | none => rw [hg] at s; simpa using s
    | some l => rw [hg] at s; simpa using s
   ·have e : zBf p q = 11 := by simp [zBf, h1, h2, h3]
    have s1 := zBn p hp
    have s2 := zBn q hq
    rw [h1] at s1
    rw [h2] at s2
    rw [e, if_neg (by decide)]
    have h4 : ((p.length : Int) == (q.length : Int)) = false := by simp; omega
    clear h1 h2
    refine zAF Tryz.func31 rfl (fun E hE => ?_); simp only [go_sem, Tryz.ntmps31]
    repeat' (first | (show zAC ..; first | (refine Qr rfl ?_; try intro K' hK; try simp only [go_sem, *])) | (show Hold ..; first | refine Qh rfl ?_ | (refine zAD rfl ⟨_, rfl, fun hb => ?_, fun hb => ?_⟩ <;> (have hc := hb; try simp only [go_sem] at hc)) | refine zAI rfl ?_) | (show zAN ..; first | ((first | refine zAK (s1) ?_ ?_ | refine zAK (s2) ?_ ?_); (focus (simp only [go_sem, *]; done)); simp only [go_sem, *])) | ((with_reducible refine And.intro ?_ ?_); focus omega) | (refine zAB hK ?_; clear hK K'; simp only [go_sem, *]) | (simp only [zAH, zAA, go_sem, *]))
    all_goals first | contradiction | skip
    all_goals (refine ⟨[_, _], [], [], ⟨rfl, rfl, trivial⟩, ?_⟩; simp only [go_sem, *])
  ·have e : zBf p q = check q := by simp [zBf, h1, h2]
   have s1 := zBn p hp
   have s2 := zBn q hq
   rw [h1] at s1
   rw [e, if_neg h2]
   have h4 : (check q == 0) = false := by simpa using h2
   have h5 : (check q != 0) = true := by simpa using h2
   clear h1 e h2
   generalize check q = k at *
   refine zAF Tryz.func31 rfl (fun E hE => ?_); simp only [go_sem, Tryz.ntmps31]
   repeat' (first | (show zAC ..; first | (refine Qr rfl ?_; try intro K' hK; try simp only [go_sem, *])) | (show Hold ..; first | refine Qh rfl ?_ | (refine zAD rfl ⟨_, rfl, fun hb => ?_, fun hb => ?_⟩ <;> (have hc := hb; try simp only [go_sem] at hc)) | refine zAI rfl ?_) | (show zAN ..; first | ((first | refine zAK (s1) ?_ ?_ | refine zAK (s2) ?_ ?_); (focus (simp only [go_sem, *]; done)); simp only [go_sem, *])) | ((with_reducible refine And.intro ?_ ?_); focus omega) | (refine zAB hK ?_; clear hK K'; simp only [go_sem, *]) | (simp only [zAH, zAA, go_sem, *]))
   all_goals first | contradiction | skip
   all_goals (refine ⟨[_, _], [], [], ⟨rfl, rfl, trivial⟩, ?_⟩; simp only [go_sem, *])
 ·have e : zBf p q = check p := by simp [zBf, h1]
  have s1 := zBn p hp
  rw [e, if_neg h1]
  have h4 : (check p == 0) = false := by simpa using h1
  have h5 : (check p != 0) = true := by simpa using h1
  clear e h1
  generalize check p = k at *
  refine zAF Tryz.func31 rfl (fun E hE => ?_); simp only [go_sem, Tryz.ntmps31]
  repeat' (first | (show zAC ..; first | (refine Qr rfl ?_; try intro K' hK; try simp only [go_sem, *])) | (show Hold ..; first | refine Qh rfl ?_ | (refine zAD rfl ⟨_, rfl, fun hb => ?_, fun hb => ?_⟩ <;> (have hc := hb; try simp only [go_sem] at hc)) | refine zAI rfl ?_) | (show zAN ..; first | (refine zAK (s1) ?_ ?_; (focus (simp only [go_sem, *]; done)); simp only [go_sem, *])) | ((with_reducible refine And.intro ?_ ?_); focus omega) | (refine zAB hK ?_; clear hK K'; simp only [go_sem, *]) | (simp only [zAH, zAA, go_sem, *]))
  all_goals first | contradiction | skip
  all_goals (refine ⟨[_, _], [], [], ⟨rfl, rfl, trivial⟩, ?_⟩; simp only [go_sem, *])
end Go.Abs

namespace Go.Abs
open Go Go.Proofs
attribute [local irreducible] zAC Hold zAN
theorem zIH (l : List Int) (h1 : l.length ≤ 4294967296) : Spec Tryz.prog 164 [.list (l.map iV)] [] (.own 0 1 0 l.length) [.row 1 (l.map iV)] := by
 cases l with
 | nil =>
  refine zFt (fun a c => ?_)
  refine zAF Tryz.func164 rfl (fun E hE => ?_); simp only [go_sem, Tryz.ntmps164]
  repeat' (first | (show zAC ..; first | (refine Qr rfl ?_; try intro K' hK; try simp only [go_sem, *])) | (show Hold ..; first | refine Qh rfl ?_ | (refine zAD rfl ⟨_, rfl, fun hb => ?_, fun hb => ?_⟩ <;> (have hc := hb; try simp only [go_sem] at hc)) | refine zAI rfl ?_) | ((with_reducible refine And.intro ?_ ?_); focus omega) | (refine zAB hK ?_; clear hK K'; simp only [go_sem, *]) | (simp only [zAH, zAA, go_sem, *]))
  ·refine ⟨[_], [none], [], ⟨rfl, trivial⟩, ?_⟩
   simp only [go_sem, *]
   simp
  ·refine ⟨[_], [some 1], [], ⟨rfl, trivial⟩, ?_⟩
   simp only [go_sem, *]
 | cons x r =>
  have h2 : r.length + 1 ≤ 4294967296 := by simpa using h1
  refine zAF Tryz.func164 rfl (fun E hE => ?_); simp only [go_sem, Tryz.ntmps164]
  repeat' (first | (show zAC ..; first | (refine Qr rfl ?_; try intro K' hK; try simp only [go_sem, *])) | (show Hold ..; first | refine Qh rfl ?_ | (refine zAD rfl ⟨_, rfl, fun hb => ?_, fun hb => ?_⟩ <;> (have hc := hb; try simp only [go_sem] at hc)) | refine zAI rfl ?_) | ((with_reducible refine And.intro ?_ ?_); focus omega) | (refine zAB hK ?_; clear hK K'; simp only [go_sem, *]) | (simp only [zAH, zAA, go_sem, *]))
  all_goals first | contradiction | skip
  refine ⟨fun y hy => ?_, fun y hy => ?_, by omega, by omega, ?_⟩
  ·obtain ⟨z, _, rfl⟩ := List.mem_map.1 hy
   simp [go_sem]
  ·obtain ⟨z, _, rfl⟩ := List.mem_map.1 hy
   simp [go_sem]
  ·repeat' (first | (show zAC ..; first | (refine Qr rfl ?_; try intro K' hK; try simp only [go_sem, *])) | (show Hold ..; first | refine Qh rfl ?_ | (refine zAD rfl ⟨_, rfl, fun hb => ?_, fun hb => ?_⟩ <;> (have hc := hb; try simp only [go_sem] at hc)) | refine zAI rfl ?_) | ((with_reducible refine And.intro ?_ ?_); focus omega) | (refine zAB hK ?_; clear hK K'; simp only [go_sem, *]) | (simp only [zAH, zAA, go_sem, *]))
   refine ⟨[_], [some 1], [], ⟨rfl, trivial⟩, ?_⟩
   simp only [go_sem, *]
theorem zGF (l : List Plate) (h1 : l.length ≤ 4294967296) : Spec Tryz.prog 147 [.list (l.map Plate.enc)] [] (.own 0 2 0 l.length) [.row 2 (l.map Plate.enc)] := by
 cases l with
 | nil =>
  refine zFt (fun a c => ?_)
  refine zAF Tryz.func147 rfl (fun E hE => ?_); simp only [go_sem, Tryz.ntmps147]
  repeat' (first | (show zAC ..; first | (refine Qr rfl ?_; try intro K' hK; try simp only [go_sem, *])) | (show Hold ..; first | refine Qh rfl ?_ | (refine zAD rfl ⟨_, rfl, fun hb => ?_, fun hb => ?_⟩ <;> (have hc := hb; try simp only [go_sem] at hc)) | refine zAI rfl ?_) | ((with_reducible refine And.intro ?_ ?_); focus omega) | (refine zAB hK ?_; clear hK K'; simp only [go_sem, *]) | (simp only [zAH, zAA, go_sem, *]))
  ·refine ⟨[_], [none], [], ⟨rfl, trivial⟩, ?_⟩
   simp only [go_sem, *]
   simp
  ·refine ⟨[_], [some 1], [], ⟨rfl, trivial⟩, ?_⟩
   simp only [go_sem, *]
 | cons x r =>
  have h2 : r.length + 1 ≤ 4294967296 := by simpa using h1
  refine zAF Tryz.func147 rfl (fun E hE => ?_); simp only [go_sem, Tryz.ntmps147]
  repeat' (first | (show zAC ..; first | (refine Qr rfl ?_; try intro K' hK; try simp only [go_sem, *])) | (show Hold ..; first | refine Qh rfl ?_ | (refine zAD rfl ⟨_, rfl, fun hb => ?_, fun hb => ?_⟩ <;> (have hc := hb; try simp only [go_sem] at hc)) | refine zAI rfl ?_) | ((with_reducible refine And.intro ?_ ?_); focus omega) | (refine zAB hK ?_; clear hK K'; simp only [go_sem, *]) | (simp only [zAH, zAA, go_sem, *]))
  all_goals first | contradiction | skip
  refine ⟨fun y hy => ?_, fun y hy => ?_, by omega, by omega, ?_⟩
  ·obtain ⟨z, _, rfl⟩ := List.mem_map.1 hy
   simp [go_sem]
  ·obtain ⟨z, _, rfl⟩ := List.mem_map.1 hy
   simp [go_sem]
  ·repeat' (first | (show zAC ..; first | (refine Qr rfl ?_; try intro K' hK; try simp only [go_sem, *])) | (show Hold ..; first | refine Qh rfl ?_ | (refine zAD rfl ⟨_, rfl, fun hb => ?_, fun hb => ?_⟩ <;> (have hc := hb; try simp only [go_sem] at hc)) | refine zAI rfl ?_) | ((with_reducible refine And.intro ?_ ?_); focus omega) | (refine zAB hK ?_; clear hK K'; simp only [go_sem, *]) | (simp only [zAH, zAA, go_sem, *]))
   refine ⟨[_], [some 1], [], ⟨rfl, trivial⟩, ?_⟩
   simp only [go_sem, *]
theorem zGE (l : List House) (h1 : l.length ≤ 4294967296) : Spec Tryz.prog 134 [.list (l.map House.enc)] [] (.own 0 3 0 l.length) [.row 3 (l.map House.enc)] := by
 cases l with
 | nil =>
  refine zFt (fun a c => ?_)
  refine zAF Tryz.func134 rfl (fun E hE => ?_); simp only [go_sem, Tryz.ntmps134]
  repeat' (first | (show zAC ..; first | (refine Qr rfl ?_; try intro K' hK; try simp only [go_sem, *])) | (show Hold ..; first | refine Qh rfl ?_ | (refine zAD rfl ⟨_, rfl, fun hb => ?_, fun hb => ?_⟩ <;> (have hc := hb; try simp only [go_sem] at hc)) | refine zAI rfl ?_) | ((with_reducible refine And.intro ?_ ?_); focus omega) | (refine zAB hK ?_; clear hK K'; simp only [go_sem, *]) | (simp only [zAH, zAA, go_sem, *]))
  ·refine ⟨[_], [none], [], ⟨rfl, trivial⟩, ?_⟩
   simp only [go_sem, *]
   simp
  ·refine ⟨[_], [some 1], [], ⟨rfl, trivial⟩, ?_⟩
   simp only [go_sem, *]
 | cons x r =>
  have h2 : r.length + 1 ≤ 4294967296 := by simpa using h1
  refine zAF Tryz.func134 rfl (fun E hE => ?_); simp only [go_sem, Tryz.ntmps134]
  repeat' (first | (show zAC ..; first | (refine Qr rfl ?_; try intro K' hK; try simp only [go_sem, *])) | (show Hold ..; first | refine Qh rfl ?_ | (refine zAD rfl ⟨_, rfl, fun hb => ?_, fun hb => ?_⟩ <;> (have hc := hb; try simp only [go_sem] at hc)) | refine zAI rfl ?_) | ((with_reducible refine And.intro ?_ ?_); focus omega) | (refine zAB hK ?_; clear hK K'; simp only [go_sem, *]) | (simp only [zAH, zAA, go_sem, *]))
  all_goals first | contradiction | skip
  refine ⟨fun y hy => ?_, fun y hy => ?_, by omega, by omega, ?_⟩
  ·obtain ⟨z, _, rfl⟩ := List.mem_map.1 hy
   simp [go_sem]
  ·obtain ⟨z, _, rfl⟩ := List.mem_map.1 hy
   simp [go_sem]
  ·repeat' (first | (show zAC ..; first | (refine Qr rfl ?_; try intro K' hK; try simp only [go_sem, *])) | (show Hold ..; first | refine Qh rfl ?_ | (refine zAD rfl ⟨_, rfl, fun hb => ?_, fun hb => ?_⟩ <;> (have hc := hb; try simp only [go_sem] at hc)) | refine zAI rfl ?_) | ((with_reducible refine And.intro ?_ ?_); focus omega) | (refine zAB hK ?_; clear hK K'; simp only [go_sem, *]) | (simp only [zAH, zAA, go_sem, *]))
   refine ⟨[_], [some 1], [], ⟨rfl, trivial⟩, ?_⟩
   simp only [go_sem, *]
def idxH (l : List House) (x : House) : Int := if x ∈ l then (l.idxOf x : Nat) else -1
theorem zK5 {l : List House} {x : House} (h : x ∈ l) : idxH l x = (l.idxOf x : Nat) := by simp [idxH, h]
theorem zHn {l : List House} {x : House} (hn : x ∉ l) : idxH l x = -1 := by simp [idxH, hn]
theorem zJG {l : List House} {i : Nat} {x : House} (h : i < l.length) (hn : x ∉ l.take i) (hx : ¬ l.getD i default = x) : x ∉ l.take (i + 1) := by
 rw [List.take_add_one]
 simp only [List.getD_eq_getElem?_getD, List.getElem?_eq_getElem h, Option.getD_some] at hx
 simp only [List.getElem?_eq_getElem h, Option.toList_some, List.mem_append, List.mem_singleton, not_or]
 exact ⟨hn, fun e => hx e.symm⟩
theorem zJ4 {l : List House} {i : Nat} {x : House} (h : i < l.length) (hn : x ∉ l.take i) (hx : l.getD i default = x) : idxH l x = i := by
 have hg : l.drop i = x :: l.drop (i + 1) := by rw [zAS h, hx]
 have hl : l = l.take i ++ x :: l.drop (i + 1) := by rw [← hg, List.take_append_drop]
 have hm : x ∈ l := by rw [hl]; simp
 rw [zK5 hm]
 conv => lhs; rw [hl]
 rw [List.idxOf_append, if_neg hn]
 simp; omega
theorem zGJ (l : List House) (x : House) (h1 : l.length ≤ 4294967296) : Spec Tryz.prog 142 [.list (l.map House.enc), x.enc] [] (iV (idxH l x)) [] := by
 refine zAF Tryz.func142 rfl (fun E hE => ?_); simp only [go_sem, Tryz.ntmps142]
 repeat' (first | (show zAC ..; first | (refine Qr rfl ?_; try intro K' hK; try simp only [go_sem, *])) | (show Hold ..; first | refine Qh rfl ?_ | refine zAG rfl Tryz.mixed (by kernel_rfl) ?_ | (refine zAD rfl ⟨_, rfl, fun hb => ?_, fun hb => ?_⟩ <;> (have hc := hb; try simp only [go_sem] at hc)) | refine zAI rfl ?_) | (refine Qb ?_ ?_; focus kernel_rfl) | ((with_reducible refine And.intro ?_ ?_); focus omega) | (refine zAB hK ?_; clear hK K'; simp only [go_sem, *]) | (simp only [zAH, zAA, go_sem, *]))
 refine zAQ rfl (fun zn zN zenv zAs => ∃ (i : Nat), zn = (l.length) - i ∧ i ≤ (l.length) ∧ (x ∉ l.take i) ∧ zN = 19 ∧ zenv = [(8, iV i), (7, iV l.length), (3, .ptr 0 0), (0, .list (l.map House.enc))] ∧ zAs = [.box [iV x.street, iV x.plate.number, iV x.plate.letter]]) (l.length) ⟨[some 0], [], _, _, _, (by (simp only [Weak, go_sem, List.map_append, List.map_set, *] <;> (try simp (disch := omega) only [zAE]) <;> (try simp) <;> (try omega))), 0, (by simp), (by simp), (by simp), rfl, rfl, rfl⟩ ?_; rintro _ _ _ _ ⟨i, rfl, hi, hP, rfl, rfl, rfl⟩
 repeat' (first | (show zAC ..; first | (refine Qr rfl ?_; try intro K' hK; try simp only [go_sem, *])) | (show Hold ..; first | refine Qh rfl ?_ | refine zAG rfl Tryz.mixed (by kernel_rfl) ?_ | (refine zAD rfl ⟨_, rfl, fun hb => ?_, fun hb => ?_⟩ <;> (have hc := hb; try simp only [go_sem] at hc)) | refine zAI rfl ?_) | (refine Qb ?_ ?_; focus kernel_rfl) | ((with_reducible refine And.intro ?_ ?_); focus omega) | (refine zAB hK ?_; clear hK K'; simp only [go_sem, *]) | (simp only [zAH, zAA, go_sem, *]))
 ·(refine ⟨[_], [], [], ⟨rfl, trivial⟩, ?_⟩; simp only [go_sem, *])
  have e : x = l.getD i default := by assumption
  rw [← e]
  exact zK9 (zJ4 (by assumption) hP e.symm)
 ·refine ⟨_, (by omega), [some 0], [], _, _, _, (by (simp only [Weak, go_sem, List.map_append, List.map_set, *] <;> (try simp (disch := omega) only [zAE]) <;> (try simp) <;> (try omega))), i + 1, rfl, (by omega), (by exact zJG (by assumption) hP (fun e => absurd e.symm (by assumption))), rfl, rfl, rfl⟩
 ·(refine ⟨[_], [], [], ⟨rfl, trivial⟩, ?_⟩; simp only [go_sem, *])
  rw [List.take_of_length_le (by omega)] at hP
  rw [zHn hP]
theorem zB0 (l : List House) (x : House) (h1 : l.length ≤ 4294967296) : Spec Tryz.prog 106 [.list (l.map House.enc), x.enc] [] (bV (decide (x ∈ l))) [] := by
 refine zAF Tryz.func106 rfl (fun E hE => ?_); simp only [go_sem, Tryz.ntmps106]
 repeat' (first | (show zAC ..; first | (refine Qr rfl ?_; try intro K' hK; try simp only [go_sem, *])) | (show Hold ..; first | refine Qh rfl ?_ | (refine zAD rfl ⟨_, rfl, fun hb => ?_, fun hb => ?_⟩ <;> (have hc := hb; try simp only [go_sem] at hc)) | refine zAI rfl ?_) | (show zAN ..; first | (refine zAK (zGJ l x h1) ?_ ?_; (focus (simp only [go_sem, *]; done)); simp only [go_sem, *])) | ((with_reducible refine And.intro ?_ ?_); focus omega) | (refine zAB hK ?_; clear hK K'; simp only [go_sem, *]) | (simp only [zAH, zAA, go_sem, *]))
 (refine ⟨[_], [], [], ⟨rfl, trivial⟩, ?_⟩; simp only [go_sem, *])
 refine zDi ?_
 by_cases hm : x ∈ l
 ·simp [zK5 hm, hm]
 ·simp [zHn hm, hm]
theorem zFF (l : List House) (h1 : l.length ≤ 4294967296) (hn : l.Nodup) : Spec Tryz.prog 137 [.own 0 3 0 l.length] [.row 3 (l.map House.enc)] (.own 0 3 0 l.length) [.row 3 (l.map House.enc)] := by
 have hne : ∀ i, i + 1 < l.length → ¬ l.getD (i + 1) default = l.getD i default := fun i hi e => by
  have e1 : l.getD (i + 1) default = l[i + 1] := by simp [List.getD, hi]
  have e2 : l.getD i default = l[i] := by simp [List.getD, show i < l.length by omega]
  rw [e1, e2] at e
  have := (zBi hn).1 e
  omega
 refine zAF Tryz.func137 rfl (fun E hE => ?_); simp only [go_sem, Tryz.ntmps137]
 repeat' (first | (show zAC ..; first | (refine Qr rfl ?_; try intro K' hK; try simp only [go_sem, *])) | (show Hold ..; first | refine Qh rfl ?_ | refine zAG rfl Tryz.mixed (by kernel_rfl) ?_ | (refine zAD rfl ⟨_, rfl, fun hb => ?_, fun hb => ?_⟩ <;> (have hc := hb; try simp only [go_sem] at hc)) | refine zAI rfl ?_) | (refine Qb ?_ ?_; focus kernel_rfl) | ((with_reducible refine And.intro ?_ ?_); focus omega) | (refine zAB hK ?_; clear hK K'; simp only [go_sem, *]) | (simp only [zAH, zAA, go_sem, *]))
 ·refine ⟨[_], [some 0], [], ⟨rfl, trivial⟩, ?_⟩
  simp only [go_sem, *]
 ·refine zAQ rfl (fun zn zN zenv zAs => ∃ (i : Nat), zn = (l.length - 1) - i ∧ i ≤ (l.length - 1) ∧ (NoP i) ∧ zN = 61 ∧ zenv = [(3, iV ((i : Int) + 1)), (0, .own 0 3 0 l.length)] ∧ zAs = [.row 3 (l.map House.enc)]) (l.length - 1) ⟨[some 0], [], _, _, _, (by (simp only [Weak, go_sem, List.map_append, List.map_set, *] <;> (try simp (disch := omega) only [zAE]) <;> (try simp) <;> (try omega))), 0, (by simp), (by simp), (by trivial), rfl, rfl, rfl⟩ ?_; rintro _ _ _ _ ⟨i, rfl, hi, hP, rfl, rfl, rfl⟩
  have hw1 : i + 1 < l.length → IntKind.i64.wrap ((i : Int) + 1 - 1) = (i : Int) := fun h => by rw [wrap_i64 (by omega) (by omega)]; omega
  have hw2 : i + 1 < l.length → IntKind.i64.wrap ((i : Int) + 1 + 1) = (((i + 1 : Nat) : Int) + 1) := fun h => by rw [wrap_i64 (by omega) (by omega)]; omega
  have hlt : ((i : Int) + 1 < (l.length : Int)) = (i + 1 < l.length) := by simp only [eq_iff_iff]; omega
  have htn : ((i : Int) + 1).toNat = i + 1 := by omega
  by_cases h2 : i + 1 < l.length
  ·have h3 : i < l.length := by omega
   have hne := hne i h2
   have hne' : decide (l.getD (i + 1) default = l.getD i default) = false := by simpa using hne
   repeat' (first | (show zAC ..; first | (refine Qr rfl ?_; try intro K' hK; try simp only [go_sem, *])) | (show Hold ..; first | refine Qh rfl ?_ | refine zAG rfl Tryz.mixed (by kernel_rfl) ?_ | (refine zAD rfl ⟨_, rfl, fun hb => ?_, fun hb => ?_⟩ <;> (have hc := hb; try simp only [go_sem] at hc)) | refine zAI rfl ?_) | (refine Qb ?_ ?_; focus kernel_rfl) | ((with_reducible refine And.intro ?_ ?_); focus omega) | (refine zAB hK ?_; clear hK K'; simp only [go_sem, *]) | (simp only [zAH, zAA, go_sem, *]))
   all_goals first | contradiction | skip
   refine ⟨_, (by omega), [some 0], [], _, _, _, (by (simp only [Weak, go_sem, List.map_append, List.map_set, *] <;> (try simp (disch := omega) only [zAE]) <;> (try simp) <;> (try omega))), i + 1, rfl, (by omega), (by trivial), rfl, rfl, rfl⟩
  ·repeat' (first | (show zAC ..; first | (refine Qr rfl ?_; try intro K' hK; try simp only [go_sem, *])) | (show Hold ..; first | refine Qh rfl ?_ | refine zAG rfl Tryz.mixed (by kernel_rfl) ?_ | (refine zAD rfl ⟨_, rfl, fun hb => ?_, fun hb => ?_⟩ <;> (have hc := hb; try simp only [go_sem] at hc)) | refine zAI rfl ?_) | (refine Qb ?_ ?_; focus kernel_rfl) | ((with_reducible refine And.intro ?_ ?_); focus omega) | (refine zAB hK ?_; clear hK K'; simp only [go_sem, *]) | (simp only [zAH, zAA, go_sem, *]))
   refine ⟨[_], [some 0], [], ⟨rfl, trivial⟩, ?_⟩
   simp only [go_sem, *]
theorem zDo {xs : List House} (hn : xs.Nodup) : Strict (zBE cmpH xs) := by
 have h1 := zEx cmpH zLT xs
 have h2 : (zBE cmpH xs).Nodup := (zBw cmpH xs).nodup_iff.2 hn
 refine (h1.and h2).imp (fun {a b} h => ?_)
 rcases House.lt_tri a b with h3 | h3 | h3
 ·exact h3
 ·exact absurd h3 h.2
 ·exact absurd ((zIh b a).2 h3) h.1
theorem zDn {xs : List House} (hn : xs.Nodup) : zBE cmpH xs = zA8 xs :=
 zCT (zDo hn) (zBC xs) (fun z => by rw [(zBw cmpH xs).mem_iff, mem_sortH])
theorem zIS (l : List House) (hn : l.Nodup) (h12 : l.length ≤ 12) : Spec Tryz.prog 99 [.list (l.map House.enc)] [] (.list ((zA8 l).map House.enc)) [] := by
 have hcal : zAw Tryz.prog 136 = true := by kernel_rfl
 have ss := zEi hcal (fun a b => zFG a b) l h12
 rw [zDn hn] at ss
 have hl : (zA8 l).length = l.length := by rw [← zDn hn]; exact (zBw cmpH l).length_eq
 have hns : (zA8 l).Nodup := by rw [← zDn hn]; exact (zBw cmpH l).nodup_iff.2 hn
 have sc := zFF (zA8 l) (by omega) hns
 rw [hl] at sc
 have hl2 : l.length ≤ (zA8 l).length := by omega
 have hl3 : (zA8 l).length ≤ l.length := by omega
 clear hl hns
 have hcl := zGE l (by omega)
 refine zAF Tryz.func99 rfl (fun E hE => ?_); simp only [go_sem, Tryz.ntmps99]
 repeat' (first | (show zAC ..; first | (refine Qr rfl ?_; try intro K' hK; try simp only [go_sem, *])) | (show Hold ..; first | refine Qh rfl ?_ | (refine zAD rfl ⟨_, rfl, fun hb => ?_, fun hb => ?_⟩ <;> (have hc := hb; try simp only [go_sem] at hc)) | refine zAI rfl ?_) | (show zAN ..; first | (refine zAl (hcl) ?_ ?_ ?_ ?_; (focus (simp only [go_sem, *]; done)); (focus (first | (simp; done) | (simp [go_sem]; done))); (focus (first | (simp; done) | (simp [go_sem]; done))); simp only [go_sem, *])) | ((with_reducible refine And.intro ?_ ?_); focus omega) | (refine zAB hK ?_; clear hK K'; simp only [go_sem, *]) | (simp only [zAH, zAA, go_sem, *]))
 refine zAR [0] [] ss (by simp) (by simp only [go_sem, *]) (by simp only [go_sem, AObj.live, *]) (by simp) (.inl rfl) (by simp [go_sem]) (by simp) ?_
 simp only [go_sem, *]
 repeat' (first | (show zAC ..; first | (refine Qr rfl ?_; try intro K' hK; try simp only [go_sem, *])) | (show Hold ..; first | refine Qh rfl ?_ | (refine zAD rfl ⟨_, rfl, fun hb => ?_, fun hb => ?_⟩ <;> (have hc := hb; try simp only [go_sem] at hc)) | refine zAI rfl ?_) | ((with_reducible refine And.intro ?_ ?_); focus omega) | (refine zAB hK ?_; clear hK K'; simp only [go_sem, *]) | (simp only [zAH, zAA, go_sem, *]))
 refine zAR [0] [] sc (by simp) (by simp only [go_sem, *]) (by simp only [go_sem, AObj.live, *]) (by simp) (.inl rfl) (by simp [go_sem]) (by simp) ?_
 simp only [go_sem, *]
 repeat' (first | (show zAC ..; first | (refine Qr rfl ?_; try intro K' hK; try simp only [go_sem, *])) | (show Hold ..; first | refine Qh rfl ?_ | (refine zAD rfl ⟨_, rfl, fun hb => ?_, fun hb => ?_⟩ <;> (have hc := hb; try simp only [go_sem] at hc)) | refine zAI rfl ?_) | ((with_reducible refine And.intro ?_ ?_); focus omega) | (refine zAB hK ?_; clear hK K'; simp only [go_sem, *]) | (simp only [zAH, zAA, go_sem, *]))
 refine ⟨[_], [], [0], ⟨rfl, trivial⟩, ?_⟩
 simp only [go_sem, *]
 exact (List.take_of_length_le (by simpa using hl3)).symm
end Go.Abs

namespace Go.Abs
open Go Go.Proofs
attribute [local irreducible] zAC Hold zAN
@[go_sem] theorem zPZ (h : House) : zCc h.key = h.enc := by simp [House.key, House.enc, zCc, Value.oneCell']
def ThP (hs don rem : List House) (i : Nat) : Prop := rem.length + i = hs.length ∧ (don ++ rem).Perm hs
def zIU (f g : House → List House) (h : House) : List House := zA8 ((f h).flatMap g)
theorem zN4 (hs ks : List House) (f g : House → List House) (hn : hs.Nodup) (hw : ∀ k, k ∈ hs → k.Wf) (kw : ∀ k, k ∈ ks → k.Wf) (hk : ∀ h, h ∈ hs → ∀ x, x ∈ f h → x ∈ ks) (hnd : ∀ h, h ∈ hs → ((f h).flatMap g).Nodup) (h12 : ∀ h, h ∈ hs → ((f h).flatMap g).length ≤ 12)
  (hsl : hs.length ≤ 1000) (hfl : ∀ h, h ∈ hs → (f h).length ≤ 1000) (hgl : ∀ x, x ∈ ks → (g x).length ≤ 1000) :
  Spec Tryz.prog 165 [.fmap (hs.map House.key) (hs.map (MapV f)), .fmap (ks.map House.key) (ks.map (MapV g))] [] (.fmap (hs.map House.key) (hs.map (MapV (zIU f g)))) [] := by
 have hmt : (mapT Tryz.prog 121).isSome = true := by kernel_rfl
 refine zAF Tryz.func165 rfl (fun E hE => ?_); simp only [go_sem, Tryz.ntmps165]
 repeat' (first | (show zAC ..; first | (refine Qr rfl ?_; try intro K' hK; try simp only [go_sem, *])) | (show Hold ..; first | refine Qh rfl ?_ | refine zAG rfl Tryz.mixed (by kernel_rfl) ?_ | (refine zAD rfl ⟨_, rfl, fun hb => ?_, fun hb => ?_⟩ <;> (have hc := hb; try simp only [go_sem] at hc)) | refine zAI rfl ?_) | (refine Qb ?_ ?_; focus kernel_rfl) | ((with_reducible refine And.intro ?_ ?_); focus omega) | (refine zAB hK ?_; clear hK K'; simp only [go_sem, *]) | (simp only [zAH, zAA, go_sem, *]))
 refine zAQ rfl (fun zn zN zenv zAs => ∃ (i : Nat) (cur : Option (Value × AV)) (don rem : List House), zn = (hs.length) - i ∧ i ≤ (hs.length) ∧ (ThP hs don rem i) ∧ zN = 36 ∧ zenv = [(5, .mp 0), (13, .ptr 1 0), (1, .fmap (ks.map House.key) (ks.map (MapV g)))] ∧ zAs = [.mapo (don.map House.key) (don.map (MapV (zIU f g))), .iter cur (rem.map House.key) (rem.map (MapV f))]) (hs.length) ⟨[some 0, some 1], [], _, _, _, (by (simp only [Weak, go_sem, List.map_append, List.map_set, *] <;> (try simp (disch := omega) only [zAE]) <;> (try simp) <;> (try omega))), 0, none, [], hs, (by simp), (by simp), (by exact ⟨by omega, by simp⟩), rfl, rfl, rfl⟩ ?_; rintro _ _ _ _ ⟨i, cur, don, rem, rfl, hi, hP, rfl, rfl, rfl⟩
 refine zKJ rfl ?_
 refine zJf (o := 1) rfl rfl rfl rfl rfl rfl rfl cur (rem.map House.key) (rem.map (MapV f)) (by simp only [go_sem]) (by simp only [go_sem]) (show (14 : Nat) < 36 by decide) (show (15 : Nat) < 36 by decide) (fun hk0 _ => ?_) (fun r hr1 hr2 => ?_)
 ·obtain rfl : rem = [] := by simpa using hk0
  simp only [go_sem]
  repeat' (first | (show zAC ..; first | (refine Qr rfl ?_; try intro K' hK; try simp only [go_sem, *])) | (show Hold ..; first | refine Qh rfl ?_ | refine zAG rfl Tryz.mixed (by kernel_rfl) ?_ | (refine zAD rfl ⟨_, rfl, fun hb => ?_, fun hb => ?_⟩ <;> (have hc := hb; try simp only [go_sem] at hc)) | refine zAI rfl ?_) | (refine Qb ?_ ?_; focus kernel_rfl) | ((with_reducible refine And.intro ?_ ?_); focus omega) | (refine zAB hK ?_; clear hK K'; simp only [go_sem, *]) | (simp only [zAH, zAA, go_sem, *]))
  obtain ⟨_, p0⟩ := hP
  rw [List.append_nil] at p0
  have hpm : MPerm (hs.map House.key) (hs.map (MapV (zIU f g))) (don.map House.key) (don.map (MapV (zIU f g))) := by
   refine .inr ⟨by simp, by simp, ?_⟩
   rw [List.zip_map', List.zip_map']
   exact (p0.map _).symm
  refine ⟨[_], [], [0], ⟨rfl, trivial⟩, ?_⟩
  simp only [go_sem, *]
 ·obtain ⟨hr, hrk, hrx⟩ : ∃ hr : r < rem.length, (rem.map House.key)[r] = (rem[r]).key ∧ (rem.map (MapV f))[r] = .list ((f rem[r]).map House.enc) := ⟨by simpa using hr1, by simp, by simp [MapV]⟩
  rw [hrk, hrx, ← zAx, ← zAx]
  obtain ⟨hlen0, hperm⟩ := hP
  have hq : (rem[r] :: rem.eraseIdx r).Perm rem := (zEW rem r hr).symm
  have hel : (rem.eraseIdx r).length = rem.length - 1 := List.length_eraseIdx_of_lt hr
  clear hrk hrx
  generalize rem.eraseIdx r = rem' at *
  generalize rem[r] = h at *
  have hq2 : ((don ++ [h]) ++ rem').Perm hs := by
   rw [List.append_assoc]
   exact (List.Perm.append_left don hq).trans hperm
  have hmh : h ∈ hs := hq2.mem_iff.1 (by simp)
  have hmd : ∀ k, k ∈ don → k ∈ hs := fun k hk => hq2.mem_iff.1 (by simp [hk])
  have hnd2 := hq2.nodup_iff.2 hn
  have hnot : h ∉ don := fun hd => by
   rw [List.append_assoc] at hnd2
   exact (List.nodup_append.1 hnd2).2.2 h hd h (by simp) rfl
  have hil : i < hs.length := by omega
  have hfh := hfl h hmh
  have hkh := hk h hmh
  have hndh := hnd h hmh
  have h12h := h12 h hmh
  clear hq hperm hnd2
  simp only [go_sem]
  repeat' (first | (show zAC ..; first | (refine Qr rfl ?_; try intro K' hK; try simp only [go_sem, *])) | (show Hold ..; first | refine Qh rfl ?_ | refine zAG rfl Tryz.mixed (by kernel_rfl) ?_ | (refine zAD rfl ⟨_, rfl, fun hb => ?_, fun hb => ?_⟩ <;> (have hc := hb; try simp only [go_sem] at hc)) | refine zAI rfl ?_) | (refine Qb ?_ ?_; focus kernel_rfl) | ((with_reducible refine And.intro ?_ ?_); focus omega) | (refine zAB hK ?_; clear hK K'; simp only [go_sem, *]) | (simp only [zAH, zAA, go_sem, *]))
  refine zAQ rfl (fun zn zN zenv zAs => ∃ (j : Nat) (acc : List House), zn = ((f h).length) - j ∧ j ≤ ((f h).length) ∧ (acc ++ ((f h).drop j).flatMap g = (f h).flatMap g) ∧ zN = 36 ∧ zenv = [(21, iV j), (20, iV (f h).length), (19, .list ((f h).map House.enc)), (8, .own 3 3 0 acc.length), (6, .ptr 2 0), (5, .mp 0), (13, .ptr 1 0), (1, .fmap (ks.map House.key) (ks.map (MapV g)))] ∧ zAs = [.mapo (don.map House.key) (don.map (MapV (zIU f g))), .iter (some (h.key, .list ((f h).map House.enc))) (rem'.map House.key) (rem'.map (MapV f)), .box [iV h.street, iV h.plate.number, iV h.plate.letter], .row 3 (acc.map House.enc)]) ((f h).length) ⟨[some 0, some 1, some 2, none], [], _, _, _, (by (simp only [Weak, go_sem, List.map_append, List.map_set, *] <;> (try simp (disch := omega) only [zAE]) <;> (try simp) <;> (try omega))), 0, [], (by simp), (by simp), (by simp), rfl, rfl, rfl⟩ ?_; rintro _ _ _ _ ⟨j, acc, rfl, hj, hQ, rfl, rfl, rfl⟩
  have hql := congrArg List.length hQ
  simp only [List.length_append] at hql
  by_cases hj : j < (f h).length
  ·have hdj := zAS hj
   rw [hdj, List.flatMap_cons] at hQ hql
   simp only [List.length_append] at hql
   have hxk := hkh _ (zAT hj)
   have hxw := kw _ hxk
   have hgx := hgl _ hxk
   clear hdj
   repeat' (first | (show zAC ..; first | (refine Qr rfl ?_; try intro K' hK; try simp only [go_sem, *])) | (show Hold ..; first | refine Qh rfl ?_ | refine zAG rfl Tryz.mixed (by kernel_rfl) ?_ | (refine zAD rfl ⟨_, rfl, fun hb => ?_, fun hb => ?_⟩ <;> (have hc := hb; try simp only [go_sem] at hc)) | refine zAI rfl ?_) | (refine Qb ?_ ?_; focus kernel_rfl) | ((with_reducible refine And.intro ?_ ?_); focus omega) | (refine zAB hK ?_; clear hK K'; simp only [go_sem, *]) | (simp only [zAH, zAA, go_sem, *]))
   refine zBM (h := (f h).getD j default) (hs := ks) (F := MapV g) kw hxw ?_
   rw [if_pos hxk, MapV]
   repeat' (first | (show zAC ..; first | (refine Qr rfl ?_; try intro K' hK; try simp only [go_sem, *])) | (show Hold ..; first | refine Qh rfl ?_ | refine zAG rfl Tryz.mixed (by kernel_rfl) ?_ | (refine zAD rfl ⟨_, rfl, fun hb => ?_, fun hb => ?_⟩ <;> (have hc := hb; try simp only [go_sem] at hc)) | refine zAI rfl ?_) | (refine Qb ?_ ?_; focus kernel_rfl) | ((with_reducible refine And.intro ?_ ?_); focus omega) | (refine zAB hK ?_; clear hK K'; simp only [go_sem, *]) | (simp only [zAH, zAA, go_sem, *]))
   refine ⟨fun y hy => ?_, fun y hy => ?_, by omega, ?_⟩
   ·obtain ⟨z, _, rfl⟩ := List.mem_map.1 hy
    simp [go_sem]
   ·obtain ⟨z, _, rfl⟩ := List.mem_map.1 hy
    simp [go_sem]
   ·repeat' (first | (show zAC ..; first | (refine Qr rfl ?_; try intro K' hK; try simp only [go_sem, *])) | (show Hold ..; first | refine Qh rfl ?_ | refine zAG rfl Tryz.mixed (by kernel_rfl) ?_ | (refine zAD rfl ⟨_, rfl, fun hb => ?_, fun hb => ?_⟩ <;> (have hc := hb; try simp only [go_sem] at hc)) | refine zAI rfl ?_) | (refine Qb ?_ ?_; focus kernel_rfl) | ((with_reducible refine And.intro ?_ ?_); focus omega) | (refine zAB hK ?_; clear hK K'; simp only [go_sem, *]) | (simp only [zAH, zAA, go_sem, *]))
    refine ⟨_, (by omega), [some 0, some 1, some 2, some 5], [], _, _, _, (by (simp only [Weak, go_sem, List.map_append, List.map_set, *] <;> (try simp (disch := omega) only [zAE]) <;> (try simp) <;> (try omega))), j + 1, acc ++ g ((f h).getD j default), rfl, (by omega), (by rw [← hQ]; simp), rfl, rfl, rfl⟩
  ·rw [zAX (by omega), List.flatMap_nil, List.append_nil] at hQ
   subst hQ
   repeat' (first | (show zAC ..; first | (refine Qr rfl ?_; try intro K' hK; try simp only [go_sem, *])) | (show Hold ..; first | refine Qh rfl ?_ | refine zAG rfl Tryz.mixed (by kernel_rfl) ?_ | (refine zAD rfl ⟨_, rfl, fun hb => ?_, fun hb => ?_⟩ <;> (have hc := hb; try simp only [go_sem] at hc)) | refine zAI rfl ?_) | (refine Qb ?_ ?_; focus kernel_rfl) | ((with_reducible refine And.intro ?_ ?_); focus omega) | (refine zAB hK ?_; clear hK K'; simp only [go_sem, *]) | (simp only [zAH, zAA, go_sem, *]))
   refine zBG (gone := [3]) (zIS ((f h).flatMap g) hndh h12h) (by simp only [go_sem, *]; simp [List.take_of_length_le]) (by simp only [go_sem, *]; simp) (by simp only [go_sem]) (by simp) (by simp) ?_
   simp only [go_sem, zA9]
   repeat' (first | (show zAC ..; first | (refine Qr rfl ?_; try intro K' hK; try simp only [go_sem, *])) | (show Hold ..; first | refine Qh rfl ?_ | refine zAG rfl Tryz.mixed (by kernel_rfl) ?_ | (refine zAD rfl ⟨_, rfl, fun hb => ?_, fun hb => ?_⟩ <;> (have hc := hb; try simp only [go_sem] at hc)) | refine zAI rfl ?_) | (refine Qb ?_ ?_; focus kernel_rfl) | ((with_reducible refine And.intro ?_ ?_); focus omega) | (refine zAB hK ?_; clear hK K'; simp only [go_sem, *]) | (simp only [zAH, zAA, go_sem, *]))
   refine zIB (h := h) (hs := don) (xs := don.map (MapV (zIU f g))) (by simp only [go_sem, *]) (fun k hk => hw k (hmd k hk)) (hw h hmh) hnot (by simp only [go_sem, *]) (by simp only [go_sem, *]) ?_
   simp only [go_sem, *]
   repeat' (first | (show zAC ..; first | (refine Qr rfl ?_; try intro K' hK; try simp only [go_sem, *])) | (show Hold ..; first | refine Qh rfl ?_ | refine zAG rfl Tryz.mixed (by kernel_rfl) ?_ | (refine zAD rfl ⟨_, rfl, fun hb => ?_, fun hb => ?_⟩ <;> (have hc := hb; try simp only [go_sem] at hc)) | refine zAI rfl ?_) | (refine Qb ?_ ?_; focus kernel_rfl) | ((with_reducible refine And.intro ?_ ?_); focus omega) | (refine zAB hK ?_; clear hK K'; simp only [go_sem, *]) | (simp only [zAH, zAA, go_sem, *]))
   have hM : MapV (zIU f g) h = .list ((zA8 ((f h).flatMap g)).map House.enc) := rfl
   refine ⟨_, (by omega), [some 0, some 1], [], _, _, _, (by (simp only [Weak, go_sem, List.map_append, List.map_set, *] <;> (try simp (disch := omega) only [zAE]) <;> (try simp) <;> (try omega))), i + 1, (some (h.key, .list ((f h).map House.enc))), don ++ [h], rem', rfl, (by omega), (by exact ⟨by omega, hq2⟩), rfl, rfl, rfl⟩
end Go.Abs

namespace Go.Abs
open Go Go.Proofs
attribute [local irreducible] zAC Hold zAN
def zBr : List Change → Int
 | [] => 0
 | c :: r => if betw c.kind 1 7 = true then zBr r else 8
def zB7 : List (List Change) → Int
 | [] => 0
 | w :: r => if w.length = 0 then 7 else if 3 < w.length then 6 else if zBr w = 0 then zB7 r else 8
def zB4 (p : Plan) : List Fact → Int
 | [] => 0
 | f :: r => if f.src ∈ zAJ p ∧ betw f.dst.street 0 (p.length - 1) = true then (if f.dst.plate.ok = true then zB4 p r else 1) else 3
def zD1 (s : Story) : Int := if 4 < s.facts.length then 6 else zB4 s.first s.facts
def zCC (s : Story) (l : List (List Change)) : Int := if zB7 l = 0 then zD1 s else zB7 l
def zBD (s : Story) : Int := if check s.first = 0 then if 3 < s.steps.length then 6 else zCC s s.steps else check s.first
def zBR (s : Story) : AObj := .box [.list (s.first.map zAM), .list (s.steps.map zCm), .list (s.facts.map Fact.enc), .list ((zAJ s.first).map House.enc)]
attribute [go_sem] zBR
abbrev nilP : AV := .raw (.pointer none)
def G0 (G : Int) (R : AV) (out : List AObj) (s : Story) : Prop := (G = 0 → R = .tup [.ptr 0 0, iV 0] ∧ out = [zBR s]) ∧ (G ≠ 0 → R = .tup [nilP, iV G] ∧ out = [])
theorem zIZ {l : List Change} {i : Nat} (h : i < l.length) : zBr (l.drop i) = if betw (l.getD i default).kind 1 7 = true then zBr (l.drop (i + 1)) else 8 := by
 rw [zAS h, zBr]
theorem zHL {l : List (List Change)} {i : Nat} (h : i < l.length) : zB7 (l.drop i) = if (l.getD i default).length = 0 then 7 else if 3 < (l.getD i default).length then 6 else if zBr (l.getD i default) = 0 then zB7 (l.drop (i + 1)) else 8 := by
 rw [zAS h, zB7]
theorem zGt {p : Plan} {l : List Fact} {i : Nat} (h : i < l.length) : zB4 p (l.drop i) = if (l.getD i default).src ∈ zAJ p ∧ betw (l.getD i default).dst.street 0 (p.length - 1) = true then (if (l.getD i default).dst.plate.ok = true then zB4 p (l.drop (i + 1)) else 1) else 3 := by
 rw [zAS h, zB4]
theorem zMj (s : Story) (hst : s.steps.length ≤ 4294967296) (hwl : ∀ w, w ∈ s.steps → w.length ≤ 4294967296) (hfl : s.facts.length ≤ 4294967296) (hpl : s.first.length ≤ 4294967296) (R : AV) (out : List AObj) (G : Int) (hG : zBD s = G) (hR : G0 G R out s) :
  Spec Tryz.prog 138 [s.enc] [] R out := by
 have sc := zBn s.first hpl
 by_cases hc0 : check s.first = 0
 ·rw [zBD, if_pos hc0] at hG
  have v := (zBY s.first).1 hc0
  rw [hc0] at sc
  clear hc0
  by_cases h3 : 3 < s.steps.length
  ·have h3i : (s.steps.length : Int) > 3 := by omega
   rw [if_pos h3] at hG
   subst hG
   obtain ⟨rfl, rfl⟩ := hR.2 (by decide)
   clear hR
   refine zAF Tryz.func138 rfl (fun E hE => ?_); simp only [go_sem, Tryz.ntmps138]
   repeat' (first | (show zAC ..; first | (refine Qr rfl ?_; try intro K' hK; try simp only [go_sem, *]) | (refine Qi rfl rfl rfl rfl (fun hb K' hK => ?_) (fun hb => ?_) <;> (have hc := hb; try simp only [go_sem] at hc; simp only [go_sem, *]))) | (show Hold ..; first | refine Qh rfl ?_ | refine zAG rfl Tryz.mixed (by kernel_rfl) ?_ | (refine zAD rfl ⟨_, rfl, fun hb => ?_, fun hb => ?_⟩ <;> (have hc := hb; try simp only [go_sem] at hc)) | refine zAI rfl ?_) | (refine Qb ?_ ?_; focus kernel_rfl) | (show zAN ..; first | (refine zAK (sc) ?_ ?_; (focus (simp only [go_sem, *]; done)); simp only [go_sem, *])) | ((with_reducible refine And.intro ?_ ?_); focus omega) | (refine zAB hK ?_; clear hK K'; simp only [go_sem, *]) | (simp only [zAH, zAA, go_sem, *]))
   all_goals first | contradiction | skip
   all_goals (refine ⟨[_, _], [], [], ⟨rfl, rfl, trivial⟩, ?_⟩; simp only [go_sem, *])
  ·have h3i : ¬ (s.steps.length : Int) > 3 := by omega
   rw [if_neg h3] at hG
   refine zAF Tryz.func138 rfl (fun E hE => ?_); simp only [go_sem, Tryz.ntmps138]
   repeat' (first | (show zAC ..; first | (refine Qr rfl ?_; try intro K' hK; try simp only [go_sem, *]) | (refine Qi rfl rfl rfl rfl (fun hb K' hK => ?_) (fun hb => ?_) <;> (have hc := hb; try simp only [go_sem] at hc; simp only [go_sem, *]))) | (show Hold ..; first | refine Qh rfl ?_ | refine zAG rfl Tryz.mixed (by kernel_rfl) ?_ | (refine zAD rfl ⟨_, rfl, fun hb => ?_, fun hb => ?_⟩ <;> (have hc := hb; try simp only [go_sem] at hc)) | refine zAI rfl ?_) | (refine Qb ?_ ?_; focus kernel_rfl) | (show zAN ..; first | (refine zAK (sc) ?_ ?_; (focus (simp only [go_sem, *]; done)); simp only [go_sem, *])) | ((with_reducible refine And.intro ?_ ?_); focus omega) | (refine zAB hK ?_; clear hK K'; simp only [go_sem, *]) | (simp only [zAH, zAA, go_sem, *]))
   all_goals first | contradiction | skip
   refine zAQ rfl (fun zn zN zenv zAs => ∃ (i : Nat), zn = (s.steps.length) - i ∧ i ≤ (s.steps.length) ∧ (zCC s (s.steps.drop i) = G) ∧ zN = 96 ∧ zenv = [(25, iV i), (24, iV s.steps.length), (23, .list (s.steps.map zCm)), (1, .ptr 0 0)] ∧ zAs = [.box [.list (s.first.map zAM), .list (s.steps.map zCm), .list (s.facts.map Fact.enc)]]) (s.steps.length) ⟨[some 0], [], _, _, _, (by (simp only [Weak, go_sem, List.map_append, List.map_set, *] <;> (try simp (disch := omega) only [zAE]) <;> (try simp) <;> (try omega))), 0, (by simp), (by simp), (by exact hG), rfl, rfl, rfl⟩ ?_; rintro _ _ _ _ ⟨i, rfl, hi, hP, rfl, rfl, rfl⟩
   clear hG
   by_cases hi2 : i < s.steps.length
   ·unfold zCC at hP
    rw [zHL hi2] at hP
    have hwi := hwl _ (zAT hi2)
    generalize hw : s.steps.getD i default = w at *
    by_cases hw0 : w.length = 0
    ·have hw0i : (w.length : Int) = 0 := by omega
     rw [if_pos hw0, if_neg (by decide)] at hP
     subst hP
     obtain ⟨rfl, rfl⟩ := hR.2 (by decide)
     clear hR
     repeat' (first | (show zAC ..; first | (refine Qr rfl ?_; try intro K' hK; try simp only [go_sem, *]) | (refine Qi rfl rfl rfl rfl (fun hb K' hK => ?_) (fun hb => ?_) <;> (have hc := hb; try simp only [go_sem] at hc; simp only [go_sem, *]))) | (show Hold ..; first | refine Qh rfl ?_ | refine zAG rfl Tryz.mixed (by kernel_rfl) ?_ | (refine zAD rfl ⟨_, rfl, fun hb => ?_, fun hb => ?_⟩ <;> (have hc := hb; try simp only [go_sem] at hc)) | refine zAI rfl ?_) | (refine Qb ?_ ?_; focus kernel_rfl) | ((with_reducible refine And.intro ?_ ?_); focus omega) | (refine zAB hK ?_; clear hK K'; simp only [go_sem, *]) | (simp only [zAH, zAA, go_sem, *]))
     all_goals first | contradiction | skip
     (refine ⟨[_, _], [], [], ⟨rfl, rfl, trivial⟩, ?_⟩; simp only [go_sem, *])
    rw [if_neg hw0] at hP
    have hw0i : ¬ (w.length : Int) = 0 := by omega
    by_cases hw3 : 3 < w.length
    ·have hw3i : (w.length : Int) > 3 := by omega
     rw [if_pos hw3, if_neg (by decide)] at hP
     subst hP
     obtain ⟨rfl, rfl⟩ := hR.2 (by decide)
     clear hR
     repeat' (first | (show zAC ..; first | (refine Qr rfl ?_; try intro K' hK; try simp only [go_sem, *]) | (refine Qi rfl rfl rfl rfl (fun hb K' hK => ?_) (fun hb => ?_) <;> (have hc := hb; try simp only [go_sem] at hc; simp only [go_sem, *]))) | (show Hold ..; first | refine Qh rfl ?_ | refine zAG rfl Tryz.mixed (by kernel_rfl) ?_ | (refine zAD rfl ⟨_, rfl, fun hb => ?_, fun hb => ?_⟩ <;> (have hc := hb; try simp only [go_sem] at hc)) | refine zAI rfl ?_) | (refine Qb ?_ ?_; focus kernel_rfl) | ((with_reducible refine And.intro ?_ ?_); focus omega) | (refine zAB hK ?_; clear hK K'; simp only [go_sem, *]) | (simp only [zAH, zAA, go_sem, *]))
     all_goals first | contradiction | skip
     (refine ⟨[_, _], [], [], ⟨rfl, rfl, trivial⟩, ?_⟩; simp only [go_sem, *])
    rw [if_neg hw3] at hP
    have hw3i : ¬ (w.length : Int) > 3 := by omega
    have hP0 : (if zBr (w.drop 0) = 0 then zCC s (s.steps.drop (i + 1)) else 8) = G := by
     rw [← hP, List.drop_zero]
     unfold zCC
     split <;> rfl
    clear hP
    repeat' (first | (show zAC ..; first | (refine Qr rfl ?_; try intro K' hK; try simp only [go_sem, *]) | (refine Qi rfl rfl rfl rfl (fun hb K' hK => ?_) (fun hb => ?_) <;> (have hc := hb; try simp only [go_sem] at hc; simp only [go_sem, *]))) | (show Hold ..; first | refine Qh rfl ?_ | refine zAG rfl Tryz.mixed (by kernel_rfl) ?_ | (refine zAD rfl ⟨_, rfl, fun hb => ?_, fun hb => ?_⟩ <;> (have hc := hb; try simp only [go_sem] at hc)) | refine zAI rfl ?_) | (refine Qb ?_ ?_; focus kernel_rfl) | ((with_reducible refine And.intro ?_ ?_); focus omega) | (refine zAB hK ?_; clear hK K'; simp only [go_sem, *]) | (simp only [zAH, zAA, go_sem, *]))
    all_goals first | contradiction | skip
    refine zAQ rfl (fun zn zN zenv zAs => ∃ (j : Nat), zn = (w.length) - j ∧ j ≤ (w.length) ∧ ((if zBr (w.drop j) = 0 then zCC s (s.steps.drop (i + 1)) else 8) = G) ∧ zN = 96 ∧ zenv = [(40, iV j), (39, iV w.length), (38, .list (w.map Change.enc)), (25, iV i), (24, iV s.steps.length), (23, .list (s.steps.map zCm)), (1, .ptr 0 0)] ∧ zAs = [.box [.list (s.first.map zAM), .list (s.steps.map zCm), .list (s.facts.map Fact.enc)]]) (w.length) ⟨[some 0], [], _, _, _, (by (simp only [Weak, go_sem, List.map_append, List.map_set, *] <;> (try simp (disch := omega) only [zAE]) <;> (try simp) <;> (try omega))), 0, (by simp), (by simp), (by exact hP0), rfl, rfl, rfl⟩ ?_; rintro _ _ _ _ ⟨j, rfl, hj, hQ, rfl, rfl, rfl⟩
    by_cases hj : j < w.length
    ·rw [zIZ hj] at hQ
     have sb := zAd (w.getD j default).kind 1 7
     by_cases hbt : betw (w.getD j default).kind 1 7 = true
     ·rw [if_pos hbt] at hQ
      rw [hbt] at sb
      repeat' (first | (show zAC ..; first | (refine Qr rfl ?_; try intro K' hK; try simp only [go_sem, *]) | (refine Qi rfl rfl rfl rfl (fun hb K' hK => ?_) (fun hb => ?_) <;> (have hc := hb; try simp only [go_sem] at hc; simp only [go_sem, *]))) | (show Hold ..; first | refine Qh rfl ?_ | refine zAG rfl Tryz.mixed (by kernel_rfl) ?_ | (refine zAD rfl ⟨_, rfl, fun hb => ?_, fun hb => ?_⟩ <;> (have hc := hb; try simp only [go_sem] at hc)) | refine zAI rfl ?_) | (refine Qb ?_ ?_; focus kernel_rfl) | (show zAN ..; first | (refine zAK (sb) ?_ ?_; (focus (simp only [go_sem, *]; done)); simp only [go_sem, *])) | ((with_reducible refine And.intro ?_ ?_); focus omega) | (refine zAB hK ?_; clear hK K'; simp only [go_sem, *]) | (simp only [zAH, zAA, go_sem, *]))
      all_goals first | contradiction | skip
      refine ⟨_, (by omega), [some 0], [], _, _, _, (by (simp only [Weak, go_sem, List.map_append, List.map_set, *] <;> (try simp (disch := omega) only [zAE]) <;> (try simp) <;> (try omega))), j + 1, rfl, (by omega), (by exact hQ), rfl, rfl, rfl⟩
     ·rw [if_neg hbt, if_neg (by decide)] at hQ
      rw [Bool.not_eq_true] at hbt
      rw [hbt] at sb
      subst hQ
      obtain ⟨rfl, rfl⟩ := hR.2 (by decide)
      clear hR
      repeat' (first | (show zAC ..; first | (refine Qr rfl ?_; try intro K' hK; try simp only [go_sem, *]) | (refine Qi rfl rfl rfl rfl (fun hb K' hK => ?_) (fun hb => ?_) <;> (have hc := hb; try simp only [go_sem] at hc; simp only [go_sem, *]))) | (show Hold ..; first | refine Qh rfl ?_ | refine zAG rfl Tryz.mixed (by kernel_rfl) ?_ | (refine zAD rfl ⟨_, rfl, fun hb => ?_, fun hb => ?_⟩ <;> (have hc := hb; try simp only [go_sem] at hc)) | refine zAI rfl ?_) | (refine Qb ?_ ?_; focus kernel_rfl) | (show zAN ..; first | (refine zAK (sb) ?_ ?_; (focus (simp only [go_sem, *]; done)); simp only [go_sem, *])) | ((with_reducible refine And.intro ?_ ?_); focus omega) | (refine zAB hK ?_; clear hK K'; simp only [go_sem, *]) | (simp only [zAH, zAA, go_sem, *]))
      all_goals first | contradiction | skip
      (refine ⟨[_, _], [], [], ⟨rfl, rfl, trivial⟩, ?_⟩; simp only [go_sem, *])
    ·rw [zAX (by omega), zBr, if_pos rfl] at hQ
     repeat' (first | (show zAC ..; first | (refine Qr rfl ?_; try intro K' hK; try simp only [go_sem, *]) | (refine Qi rfl rfl rfl rfl (fun hb K' hK => ?_) (fun hb => ?_) <;> (have hc := hb; try simp only [go_sem] at hc; simp only [go_sem, *]))) | (show Hold ..; first | refine Qh rfl ?_ | refine zAG rfl Tryz.mixed (by kernel_rfl) ?_ | (refine zAD rfl ⟨_, rfl, fun hb => ?_, fun hb => ?_⟩ <;> (have hc := hb; try simp only [go_sem] at hc)) | refine zAI rfl ?_) | (refine Qb ?_ ?_; focus kernel_rfl) | ((with_reducible refine And.intro ?_ ?_); focus omega) | (refine zAB hK ?_; clear hK K'; simp only [go_sem, *]) | (simp only [zAH, zAA, go_sem, *]))
     refine ⟨_, (by omega), [some 0], [], _, _, _, (by (simp only [Weak, go_sem, List.map_append, List.map_set, *] <;> (try simp (disch := omega) only [zAE]) <;> (try simp) <;> (try omega))), i + 1, rfl, (by omega), (by exact hQ), rfl, rfl, rfl⟩
   ·rw [zAX (by omega), zCC, zB7, if_pos rfl] at hP
    by_cases hf4 : 4 < s.facts.length
    ·have hf4i : (s.facts.length : Int) > 4 := by omega
     rw [zD1, if_pos hf4] at hP
     subst hP
     obtain ⟨rfl, rfl⟩ := hR.2 (by decide)
     clear hR
     repeat' (first | (show zAC ..; first | (refine Qr rfl ?_; try intro K' hK; try simp only [go_sem, *]) | (refine Qi rfl rfl rfl rfl (fun hb K' hK => ?_) (fun hb => ?_) <;> (have hc := hb; try simp only [go_sem] at hc; simp only [go_sem, *]))) | (show Hold ..; first | refine Qh rfl ?_ | refine zAG rfl Tryz.mixed (by kernel_rfl) ?_ | (refine zAD rfl ⟨_, rfl, fun hb => ?_, fun hb => ?_⟩ <;> (have hc := hb; try simp only [go_sem] at hc)) | refine zAI rfl ?_) | (refine Qb ?_ ?_; focus kernel_rfl) | ((with_reducible refine And.intro ?_ ?_); focus omega) | (refine zAB hK ?_; clear hK K'; simp only [go_sem, *]) | (simp only [zAH, zAA, go_sem, *]))
     all_goals first | contradiction | skip
     (refine ⟨[_, _], [], [], ⟨rfl, rfl, trivial⟩, ?_⟩; simp only [go_sem, *])
    have hf4i : ¬ (s.facts.length : Int) > 4 := by omega
    rw [zD1, if_neg hf4] at hP
    repeat' (first | (show zAC ..; first | (refine Qr rfl ?_; try intro K' hK; try simp only [go_sem, *]) | (refine Qi rfl rfl rfl rfl (fun hb K' hK => ?_) (fun hb => ?_) <;> (have hc := hb; try simp only [go_sem] at hc; simp only [go_sem, *]))) | (show Hold ..; first | refine Qh rfl ?_ | refine zAG rfl Tryz.mixed (by kernel_rfl) ?_ | (refine zAD rfl ⟨_, rfl, fun hb => ?_, fun hb => ?_⟩ <;> (have hc := hb; try simp only [go_sem] at hc)) | refine zAI rfl ?_) | (refine Qb ?_ ?_; focus kernel_rfl) | (show zAN ..; first | (refine zAl (zGi v) ?_ ?_ ?_ ?_; (focus (simp only [go_sem, *]; done)); (focus (first | (simp; done) | (simp [go_sem]; done))); (focus (first | (simp; done) | (simp [go_sem]; done))); simp only [go_sem, *])) | ((with_reducible refine And.intro ?_ ?_); focus omega) | (refine zAB hK ?_; clear hK K'; simp only [go_sem, *]) | (simp only [zAH, zAA, go_sem, *]))
    all_goals first | contradiction | skip
    clear hi2 hi
    refine zAQ rfl (fun zn zN zenv zAs => ∃ (k : Nat), zn = (s.facts.length) - k ∧ k ≤ (s.facts.length) ∧ (zB4 s.first (s.facts.drop k) = G) ∧ zN = 96 ∧ zenv = [(63, iV k), (62, iV s.facts.length), (61, .list (s.facts.map Fact.enc)), (9, .ptr 1 0), (1, .ptr 0 0)] ∧ zAs = [.box [.list (s.first.map zAM), .list (s.steps.map zCm), .list (s.facts.map Fact.enc)], .box [.list (s.first.map zAM), .list (s.steps.map zCm), .list (s.facts.map Fact.enc), .list ((zAJ s.first).map House.enc)]]) (s.facts.length) ⟨[some 0, some 2], [1], _, _, _, (by (simp only [Weak, go_sem, List.map_append, List.map_set, *] <;> (try simp (disch := omega) only [zAE]) <;> (try simp) <;> (try omega))), 0, (by simp), (by simp), (by exact hP), rfl, rfl, rfl⟩ ?_; rintro _ _ _ _ ⟨k, rfl, hk, hQ, rfl, rfl, rfl⟩
    by_cases hk : k < s.facts.length
    ·rw [zGt hk] at hQ
     have hcn := v.count
     have hln := v.len
     have hwp : IntKind.i64.wrap ((s.first.length : Int) - 1) = (s.first.length : Int) - 1 := wrap_i64 (by omega) (by omega)
     have s1 := zB0 (zAJ s.first) (s.facts.getD k default).src (by omega)
     have s2 := zAd (s.facts.getD k default).dst.street 0 ((s.first.length : Int) - 1)
     have s3 := zEJ (s.facts.getD k default).dst.plate
     by_cases q1 : (s.facts.getD k default).src ∈ zAJ s.first
     ·by_cases q2 : betw (s.facts.getD k default).dst.street 0 ((s.first.length : Int) - 1) = true
      ·rw [if_pos ⟨q1, q2⟩] at hQ
       have q1' : decide ((s.facts.getD k default).src ∈ zAJ s.first) = true := by simpa using q1
       rw [q1'] at s1
       rw [q2] at s2
       by_cases q3 : (s.facts.getD k default).dst.plate.ok = true
       ·rw [if_pos q3] at hQ
        rw [q3] at s3
        clear q1 q1' q2 q3
        repeat' (first | (show zAC ..; first | (refine Qr rfl ?_; try intro K' hK; try simp only [go_sem, *]) | (refine Qi rfl rfl rfl rfl (fun hb K' hK => ?_) (fun hb => ?_) <;> (have hc := hb; try simp only [go_sem] at hc; simp only [go_sem, *]))) | (show Hold ..; first | refine Qh rfl ?_ | refine zAG rfl Tryz.mixed (by kernel_rfl) ?_ | (refine zAD rfl ⟨_, rfl, fun hb => ?_, fun hb => ?_⟩ <;> (have hc := hb; try simp only [go_sem] at hc)) | refine zAI rfl ?_) | (refine Qb ?_ ?_; focus kernel_rfl) | (show zAN ..; first | ((first | refine zAK (s1) ?_ ?_ | refine zAK (s2) ?_ ?_ | refine zAK (s3) ?_ ?_); (focus (simp only [go_sem, *]; done)); simp only [go_sem, *])) | ((with_reducible refine And.intro ?_ ?_); focus omega) | (refine zAB hK ?_; clear hK K'; simp only [go_sem, *]) | (simp only [zAH, zAA, go_sem, *]))
        all_goals first | contradiction | skip
        refine ⟨_, (by omega), [some 0, some 1], [], _, _, _, (by (simp only [Weak, go_sem, List.map_append, List.map_set, *] <;> (try simp (disch := omega) only [zAE]) <;> (try simp) <;> (try omega))), k + 1, rfl, (by omega), (by exact hQ), rfl, rfl, rfl⟩
       ·rw [if_neg q3] at hQ
        rw [Bool.not_eq_true] at q3
        rw [q3] at s3
        clear q1 q1' q2 q3
        subst hQ
        obtain ⟨rfl, rfl⟩ := hR.2 (by decide)
        clear hR
        repeat' (first | (show zAC ..; first | (refine Qr rfl ?_; try intro K' hK; try simp only [go_sem, *]) | (refine Qi rfl rfl rfl rfl (fun hb K' hK => ?_) (fun hb => ?_) <;> (have hc := hb; try simp only [go_sem] at hc; simp only [go_sem, *]))) | (show Hold ..; first | refine Qh rfl ?_ | refine zAG rfl Tryz.mixed (by kernel_rfl) ?_ | (refine zAD rfl ⟨_, rfl, fun hb => ?_, fun hb => ?_⟩ <;> (have hc := hb; try simp only [go_sem] at hc)) | refine zAI rfl ?_) | (refine Qb ?_ ?_; focus kernel_rfl) | (show zAN ..; first | ((first | refine zAK (s1) ?_ ?_ | refine zAK (s2) ?_ ?_ | refine zAK (s3) ?_ ?_); (focus (simp only [go_sem, *]; done)); simp only [go_sem, *])) | ((with_reducible refine And.intro ?_ ?_); focus omega) | (refine zAB hK ?_; clear hK K'; simp only [go_sem, *]) | (simp only [zAH, zAA, go_sem, *]))
        all_goals first | contradiction | skip
        (refine ⟨[_, _], [], [], ⟨rfl, rfl, trivial⟩, ?_⟩; simp only [go_sem, *])
      ·rw [if_neg (fun h => q2 h.2)] at hQ
       have q1' : decide ((s.facts.getD k default).src ∈ zAJ s.first) = true := by simpa using q1
       rw [q1'] at s1
       rw [Bool.not_eq_true] at q2
       rw [q2] at s2
       clear q1 q1' q2
       subst hQ
       obtain ⟨rfl, rfl⟩ := hR.2 (by decide)
       clear hR
       repeat' (first | (show zAC ..; first | (refine Qr rfl ?_; try intro K' hK; try simp only [go_sem, *]) | (refine Qi rfl rfl rfl rfl (fun hb K' hK => ?_) (fun hb => ?_) <;> (have hc := hb; try simp only [go_sem] at hc; simp only [go_sem, *]))) | (show Hold ..; first | refine Qh rfl ?_ | refine zAG rfl Tryz.mixed (by kernel_rfl) ?_ | (refine zAD rfl ⟨_, rfl, fun hb => ?_, fun hb => ?_⟩ <;> (have hc := hb; try simp only [go_sem] at hc)) | refine zAI rfl ?_) | (refine Qb ?_ ?_; focus kernel_rfl) | (show zAN ..; first | ((first | refine zAK (s1) ?_ ?_ | refine zAK (s2) ?_ ?_ | refine zAK (s3) ?_ ?_); (focus (simp only [go_sem, *]; done)); simp only [go_sem, *])) | ((with_reducible refine And.intro ?_ ?_); focus omega) | (refine zAB hK ?_; clear hK K'; simp only [go_sem, *]) | (simp only [zAH, zAA, go_sem, *]))
       all_goals first | contradiction | skip
       (refine ⟨[_, _], [], [], ⟨rfl, rfl, trivial⟩, ?_⟩; simp only [go_sem, *])
     ·rw [if_neg (fun h => q1 h.1)] at hQ
      have q1' : decide ((s.facts.getD k default).src ∈ zAJ s.first) = false := by simpa using q1
      rw [q1'] at s1
      clear q1 q1'
      subst hQ
      obtain ⟨rfl, rfl⟩ := hR.2 (by decide)
      clear hR
      repeat' (first | (show zAC ..; first | (refine Qr rfl ?_; try intro K' hK; try simp only [go_sem, *]) | (refine Qi rfl rfl rfl rfl (fun hb K' hK => ?_) (fun hb => ?_) <;> (have hc := hb; try simp only [go_sem] at hc; simp only [go_sem, *]))) | (show Hold ..; first | refine Qh rfl ?_ | refine zAG rfl Tryz.mixed (by kernel_rfl) ?_ | (refine zAD rfl ⟨_, rfl, fun hb => ?_, fun hb => ?_⟩ <;> (have hc := hb; try simp only [go_sem] at hc)) | refine zAI rfl ?_) | (refine Qb ?_ ?_; focus kernel_rfl) | (show zAN ..; first | ((first | refine zAK (s1) ?_ ?_ | refine zAK (s2) ?_ ?_ | refine zAK (s3) ?_ ?_); (focus (simp only [go_sem, *]; done)); simp only [go_sem, *])) | ((with_reducible refine And.intro ?_ ?_); focus omega) | (refine zAB hK ?_; clear hK K'; simp only [go_sem, *]) | (simp only [zAH, zAA, go_sem, *]))
      all_goals first | contradiction | skip
      (refine ⟨[_, _], [], [], ⟨rfl, rfl, trivial⟩, ?_⟩; simp only [go_sem, *])
    ·rw [zAX (by omega), zB4] at hQ
     obtain ⟨rfl, rfl⟩ := hR.1 hQ.symm
     clear hR
     repeat' (first | (show zAC ..; first | (refine Qr rfl ?_; try intro K' hK; try simp only [go_sem, *]) | (refine Qi rfl rfl rfl rfl (fun hb K' hK => ?_) (fun hb => ?_) <;> (have hc := hb; try simp only [go_sem] at hc; simp only [go_sem, *]))) | (show Hold ..; first | refine Qh rfl ?_ | refine zAG rfl Tryz.mixed (by kernel_rfl) ?_ | (refine zAD rfl ⟨_, rfl, fun hb => ?_, fun hb => ?_⟩ <;> (have hc := hb; try simp only [go_sem] at hc)) | refine zAI rfl ?_) | (refine Qb ?_ ?_; focus kernel_rfl) | ((with_reducible refine And.intro ?_ ?_); focus omega) | (refine zAB hK ?_; clear hK K'; simp only [go_sem, *]) | (simp only [zAH, zAA, go_sem, *]))
     refine ⟨[_, _], [some 1], [], ⟨rfl, rfl, trivial⟩, ?_⟩
     simp only [go_sem, *]
 ·have e : (check s.first == 0) = false := by simpa using hc0
  have e2 : (check s.first != 0) = true := by simpa using hc0
  rw [zBD, if_neg hc0] at hG
  obtain ⟨rfl, rfl⟩ := hR.2 (by rw [← hG]; exact hc0)
  subst hG
  clear hR hc0
  generalize check s.first = k at *
  refine zAF Tryz.func138 rfl (fun E hE => ?_); simp only [go_sem, Tryz.ntmps138]
  repeat' (first | (show zAC ..; first | (refine Qr rfl ?_; try intro K' hK; try simp only [go_sem, *]) | (refine Qi rfl rfl rfl rfl (fun hb K' hK => ?_) (fun hb => ?_) <;> (have hc := hb; try simp only [go_sem] at hc; simp only [go_sem, *]))) | (show Hold ..; first | refine Qh rfl ?_ | refine zAG rfl Tryz.mixed (by kernel_rfl) ?_ | (refine zAD rfl ⟨_, rfl, fun hb => ?_, fun hb => ?_⟩ <;> (have hc := hb; try simp only [go_sem] at hc)) | refine zAI rfl ?_) | (refine Qb ?_ ?_; focus kernel_rfl) | (show zAN ..; first | (refine zAK (sc) ?_ ?_; (focus (simp only [go_sem, *]; done)); simp only [go_sem, *])) | ((with_reducible refine And.intro ?_ ?_); focus omega) | (refine zAB hK ?_; clear hK K'; simp only [go_sem, *]) | (simp only [zAH, zAA, go_sem, *]))
  all_goals first | contradiction | skip
  all_goals (refine ⟨[_, _], [], [], ⟨rfl, rfl, trivial⟩, ?_⟩; simp only [go_sem, *])
end Go.Abs

namespace Go.Abs
open Go Go.Proofs
attribute [local irreducible] zAC Hold zAN
structure Truth where
 ways : List Int
 fin : Plan
 now : House → List House
@[reducible] def Truth.enc (p : Plan) (t : Truth) : AV := .agg [.list (t.ways.map iV), .list (t.fin.map zAM), .fmap (zAv p) (zAZ p t.now)]
attribute [go_sem] Truth.enc
def zGu (l : List Fact) (t : Truth) : Bool := l.all fun f => decide (f.dst ∈ t.now f.src)
theorem zJt {l : List Fact} {t : Truth} {i : Nat} (h : i < l.length) : zGu (l.drop i) t = (decide ((l.getD i default).dst ∈ t.now (l.getD i default).src) && zGu (l.drop (i + 1)) t) := by
 rw [zAS h]; simp [zGu]
theorem zNz (s : Story) (t : Truth) (v : Valid s.first) (hf : s.facts.length ≤ 1000) (hsrc : ∀ f, f ∈ s.facts → f.src ∈ zAJ s.first) (hnl : ∀ h, h ∈ zAJ s.first → (t.now h).length ≤ 1000) (b : Bool) (hb0 : zGu (s.facts.drop 0) t = b) :
  Spec Tryz.prog 163 [.ptr 0 0, t.enc s.first] [zBR s] (bV b) [zBR s] := by
 have hw := v.wf
 refine zAF Tryz.func163 rfl (fun E hE => ?_); simp only [go_sem, Tryz.ntmps163]
 repeat' (first | (show zAC ..; first | (refine Qr rfl ?_; try intro K' hK; try simp only [go_sem, *])) | (show Hold ..; first | refine Qh rfl ?_ | refine zAG rfl Tryz.mixed (by kernel_rfl) ?_ | (refine zAD rfl ⟨_, rfl, fun hb => ?_, fun hb => ?_⟩ <;> (have hc := hb; try simp only [go_sem] at hc)) | refine zAI rfl ?_) | (refine Qb ?_ ?_; focus kernel_rfl) | ((with_reducible refine And.intro ?_ ?_); focus omega) | (refine zAB hK ?_; clear hK K'; simp only [go_sem, *]) | (simp only [zAH, zAA, go_sem, *]))
 refine zAQ rfl (fun zn zN zenv zAs => ∃ (i : Nat), zn = (s.facts.length) - i ∧ i ≤ (s.facts.length) ∧ (zGu (s.facts.drop i) t = b) ∧ zN = 27 ∧ zenv = [(13, iV i), (12, iV s.facts.length), (11, .list (s.facts.map Fact.enc)), (3, .ptr 1 0)] ∧ zAs = [zBR s, .box [.list (t.ways.map iV), .list (t.fin.map zAM), .fmap (zAv s.first) (zAZ s.first t.now)]]) (s.facts.length) ⟨[some 0, some 1], [], _, _, _, (by (simp only [Weak, go_sem, List.map_append, List.map_set, *] <;> (try simp (disch := omega) only [zAE]) <;> (try simp) <;> (try omega))), 0, (by simp), (by simp), (by exact hb0), rfl, rfl, rfl⟩ ?_; rintro _ _ _ _ ⟨i, rfl, hi, hP, rfl, rfl, rfl⟩
 by_cases hi2 : i < s.facts.length
 ·rw [zJt hi2] at hP
  have hm := hsrc _ (zAT hi2)
  have hl := hnl _ hm
  have hwf := hw _ hm
  have sc := zB0 (t.now (s.facts.getD i default).src) (s.facts.getD i default).dst (by omega)
  by_cases q : (s.facts.getD i default).dst ∈ t.now (s.facts.getD i default).src
  ·have q' : decide ((s.facts.getD i default).dst ∈ t.now (s.facts.getD i default).src) = true := by simpa using q
   rw [q', Bool.true_and] at hP
   rw [q'] at sc
   clear q q'
   repeat' (first | (show zAC ..; first | (refine Qr rfl ?_; try intro K' hK; try simp only [go_sem, *])) | (show Hold ..; first | refine Qh rfl ?_ | refine zAG rfl Tryz.mixed (by kernel_rfl) ?_ | (refine zAD rfl ⟨_, rfl, fun hb => ?_, fun hb => ?_⟩ <;> (have hc := hb; try simp only [go_sem] at hc)) | refine zAI rfl ?_) | (refine Qb ?_ ?_; focus kernel_rfl) | ((with_reducible refine And.intro ?_ ?_); focus omega) | (refine zAB hK ?_; clear hK K'; simp only [go_sem, *]) | (simp only [zAH, zAA, go_sem, *]))
   refine zBM (h := (s.facts.getD i default).src) (hs := zAJ s.first) (F := MapV t.now) hw hwf ?_
   rw [if_pos hm, MapV]
   repeat' (first | (show zAC ..; first | (refine Qr rfl ?_; try intro K' hK; try simp only [go_sem, *])) | (show Hold ..; first | refine Qh rfl ?_ | refine zAG rfl Tryz.mixed (by kernel_rfl) ?_ | (refine zAD rfl ⟨_, rfl, fun hb => ?_, fun hb => ?_⟩ <;> (have hc := hb; try simp only [go_sem] at hc)) | refine zAI rfl ?_) | (refine Qb ?_ ?_; focus kernel_rfl) | (show zAN ..; first | (refine zAK (sc) ?_ ?_; (focus (simp only [go_sem, *]; done)); simp only [go_sem, *])) | ((with_reducible refine And.intro ?_ ?_); focus omega) | (refine zAB hK ?_; clear hK K'; simp only [go_sem, *]) | (simp only [zAH, zAA, go_sem, *]))
   all_goals first | contradiction | skip
   refine ⟨_, (by omega), [some 0, some 1], [], _, _, _, (by (simp only [Weak, go_sem, List.map_append, List.map_set, *] <;> (try simp (disch := omega) only [zAE]) <;> (try simp) <;> (try omega))), i + 1, rfl, (by omega), (by exact hP), rfl, rfl, rfl⟩
  ·have q' : decide ((s.facts.getD i default).dst ∈ t.now (s.facts.getD i default).src) = false := by simpa using q
   rw [q', Bool.false_and] at hP
   rw [q'] at sc
   clear q q'
   subst hP
   repeat' (first | (show zAC ..; first | (refine Qr rfl ?_; try intro K' hK; try simp only [go_sem, *])) | (show Hold ..; first | refine Qh rfl ?_ | refine zAG rfl Tryz.mixed (by kernel_rfl) ?_ | (refine zAD rfl ⟨_, rfl, fun hb => ?_, fun hb => ?_⟩ <;> (have hc := hb; try simp only [go_sem] at hc)) | refine zAI rfl ?_) | (refine Qb ?_ ?_; focus kernel_rfl) | ((with_reducible refine And.intro ?_ ?_); focus omega) | (refine zAB hK ?_; clear hK K'; simp only [go_sem, *]) | (simp only [zAH, zAA, go_sem, *]))
   refine zBM (h := (s.facts.getD i default).src) (hs := zAJ s.first) (F := MapV t.now) hw hwf ?_
   rw [if_pos hm, MapV]
   repeat' (first | (show zAC ..; first | (refine Qr rfl ?_; try intro K' hK; try simp only [go_sem, *])) | (show Hold ..; first | refine Qh rfl ?_ | refine zAG rfl Tryz.mixed (by kernel_rfl) ?_ | (refine zAD rfl ⟨_, rfl, fun hb => ?_, fun hb => ?_⟩ <;> (have hc := hb; try simp only [go_sem] at hc)) | refine zAI rfl ?_) | (refine Qb ?_ ?_; focus kernel_rfl) | (show zAN ..; first | (refine zAK (sc) ?_ ?_; (focus (simp only [go_sem, *]; done)); simp only [go_sem, *])) | ((with_reducible refine And.intro ?_ ?_); focus omega) | (refine zAB hK ?_; clear hK K'; simp only [go_sem, *]) | (simp only [zAH, zAA, go_sem, *]))
   all_goals first | contradiction | skip
   refine ⟨[_], [some 0], [], ⟨rfl, trivial⟩, ?_⟩
   simp only [go_sem, *]
 ·rw [zAX (by omega)] at hP
  subst hP
  repeat' (first | (show zAC ..; first | (refine Qr rfl ?_; try intro K' hK; try simp only [go_sem, *])) | (show Hold ..; first | refine Qh rfl ?_ | refine zAG rfl Tryz.mixed (by kernel_rfl) ?_ | (refine zAD rfl ⟨_, rfl, fun hb => ?_, fun hb => ?_⟩ <;> (have hc := hb; try simp only [go_sem] at hc)) | refine zAI rfl ?_) | (refine Qb ?_ ?_; focus kernel_rfl) | ((with_reducible refine And.intro ?_ ?_); focus omega) | (refine zAB hK ?_; clear hK K'; simp only [go_sem, *]) | (simp only [zAH, zAA, go_sem, *]))
  refine ⟨[_], [some 0], [], ⟨rfl, trivial⟩, ?_⟩
  simp only [go_sem, *]
  simp [zGu]
end Go.Abs

namespace Go.Abs
open Go
instance : Inhabited Truth := ⟨⟨[], [], fun _ => []⟩⟩
def zCe (s : Story) (k : Nat) : List Change := s.steps.getD k default
def zEl (t : Truth) (c : Change) (i : Nat) : Truth := ⟨t.ways ++ [(i : Int)], zAk t.fin c, zIU t.now (mv t.fin c)⟩
def zC2 (s : Story) : Nat → Truth → List Truth
 | 0, t => if zGu s.facts t = true then [t] else []
 | n + 1, t => (List.range' 0 (zCe s t.ways.length).length).flatMap fun i => if can t.fin ((zCe s t.ways.length).getD i default) = 0 then zC2 s n (zEl t ((zCe s t.ways.length).getD i default) i) else []
def zBJ (s : Story) (n : Nat) (t : Truth) (i : Nat) : List Truth :=
 (List.range' i ((zCe s t.ways.length).length - i)).flatMap fun i => if can t.fin ((zCe s t.ways.length).getD i default) = 0 then zC2 s n (zEl t ((zCe s t.ways.length).getD i default) i) else []
theorem zEZ {s : Story} {t : Truth} : zC2 s 0 t = if zGu s.facts t = true then [t] else [] := by rw [zC2]
theorem zJz {s : Story} {n : Nat} {t : Truth} : zC2 s (n + 1) t = zBJ s n t 0 := by rw [zC2, zBJ, Nat.sub_zero]
theorem zD4 {s : Story} {n i : Nat} {t : Truth} (h : i < (zCe s t.ways.length).length) :
  zBJ s n t i = (if can t.fin ((zCe s t.ways.length).getD i default) = 0 then zC2 s n (zEl t ((zCe s t.ways.length).getD i default) i) else []) ++ zBJ s n t (i + 1) := by
 unfold zBJ
 rw [show (zCe s t.ways.length).length - i = ((zCe s t.ways.length).length - (i + 1)) + 1 by omega, List.range'_succ, List.flatMap_cons]
theorem zHd {s : Story} {n i : Nat} {t : Truth} (h : i < (zCe s t.ways.length).length) (hc : can t.fin ((zCe s t.ways.length).getD i default) = 0) :
  zBJ s n t i = zC2 s n (zEl t ((zCe s t.ways.length).getD i default) i) ++ zBJ s n t (i + 1) := by rw [zD4 h, if_pos hc]
theorem zIq {s : Story} {n i : Nat} {t : Truth} (h : i < (zCe s t.ways.length).length) (hc : can t.fin ((zCe s t.ways.length).getD i default) ≠ 0) :
  zBJ s n t i = zBJ s n t (i + 1) := by rw [zD4 h, if_neg hc, List.nil_append]
theorem zHc {s : Story} {n i : Nat} {t : Truth} (h : (zCe s t.ways.length).length ≤ i) : zBJ s n t i = [] := by
 unfold zBJ
 rw [show (zCe s t.ways.length).length - i = 0 by omega]; rfl
def zEu (s : Story) : Truth := ⟨[], s.first, fun h => [h]⟩
def zAn (s : Story) : List Truth := zC2 s s.steps.length (zEu s)
structure TOk (s : Story) (n : Nat) (t : Truth) : Prop where
 steps : t.ways.length + n = s.steps.length
 val : Valid t.fin
 town : t.fin.length = s.first.length
 strict : ∀ h, h ∈ zAJ s.first → Strict (t.now h)
 mem : ∀ h, h ∈ zAJ s.first → ∀ x, x ∈ t.now h → x ∈ zAJ t.fin
 len : ∀ h, h ∈ zAJ s.first → (t.now h).length ≤ 2 ^ t.ways.length
theorem zHY {s : Story} (v : Valid s.first) : TOk s s.steps.length (zEu s) where
 steps := by simp [zEu]
 val := v
 town := rfl
 strict := fun h _ => by simp [zEu]
 mem := fun h hh x hx => by
  have : x = h := by simpa [zEu] using hx
  rw [this]; exact hh
 len := fun h _ => by simp [zEu]
theorem TOk.flat_nodup {s : Story} {n : Nat} {t : Truth} (o : TOk s n t) {c : Change} (f : Fit t.fin c) {h : House} (hh : h ∈ zAJ s.first) : ((t.now h).flatMap (mv t.fin c)).Nodup :=
 zCs (o.strict h hh).nodup (fun a ha => zJa f (o.mem h hh a ha)) (fun a b ha hb z hz1 hz2 => zLI o.val f (o.mem h hh a ha) (o.mem h hh b hb) hz1 hz2)
theorem flat_len {f : House → List House} (hf : ∀ h, (f h).length ≤ 2) : ∀ l : List House, (l.flatMap f).length ≤ 2 * l.length
 | [] => by simp
 | x :: r => by
  have := flat_len hf r
  have := hf x
  simp only [List.flatMap_cons, List.length_append, List.length_cons]; omega
theorem TOk.flat_len {s : Story} {n : Nat} {t : Truth} (o : TOk s n t) {c : Change} (f : Fit t.fin c) {h : House} (hh : h ∈ zAJ s.first) : ((t.now h).flatMap (mv t.fin c)).length ≤ 2 * 2 ^ t.ways.length := by
 have := Go.Abs.flat_len (fun x => zLJ f x) (t.now h)
 have := o.len h hh
 omega
theorem TOk.next {s : Story} {n : Nat} {t : Truth} (o : TOk s (n + 1) t) {c : Change} (hc : can t.fin c = 0) (i : Nat) : TOk s n (zEl t c i) := by
 have f := Fit.of_can hc
 have hn : ∀ h, (zEl t c i).now h = zA8 ((t.now h).flatMap (mv t.fin c)) := fun _ => rfl
 refine ⟨?_, zFz o.val f, ?_, fun h hh => ?_, fun h hh x hx => ?_, fun h hh => ?_⟩
 ·have := o.steps; simp [zEl]; omega
 ·have := o.town
  simp only [zEl, zAk, zBx]; exact this
 ·rw [hn]; exact zBC _
 ·rw [hn, mem_sortH] at hx
  obtain ⟨a, ha, hx⟩ := List.mem_flatMap.1 hx
  show x ∈ zAJ (zAk t.fin c)
  rw [zC9 o.val f, mem_sortH]
  exact mem_flatMv.2 ⟨a, o.mem h hh a ha, hx⟩
 ·rw [hn]
  have h1 := zCA (zBC ((t.now h).flatMap (mv t.fin c))).nodup (b := (t.now h).flatMap (mv t.fin c)) (fun x hx => mem_sortH.1 hx)
  have h2 := o.flat_len f hh
  have : (zEl t c i).ways.length = t.ways.length + 1 := by simp [zEl]
  rw [this, Nat.pow_succ]; omega
theorem TOk.small {s : Story} {n : Nat} {t : Truth} (o : TOk s n t) (h3 : s.steps.length ≤ 3) {h : House} (hh : h ∈ zAJ s.first) : (t.now h).length ≤ 8 := by
 have h1 := o.len h hh
 have h2 : t.ways.length ≤ 3 := by have := o.steps; omega
 have : 2 ^ t.ways.length ≤ 2 ^ 3 := Nat.pow_le_pow_right (by omega) h2
 omega
theorem TOk.small2 {s : Story} {n : Nat} {t : Truth} (o : TOk s (n + 1) t) (h3 : s.steps.length ≤ 3) {c : Change} (f : Fit t.fin c) {h : House} (hh : h ∈ zAJ s.first) : ((t.now h).flatMap (mv t.fin c)).length ≤ 8 := by
 have h1 := o.flat_len f hh
 have h2 : t.ways.length ≤ 2 := by have := o.steps; omega
 have : 2 ^ t.ways.length ≤ 2 ^ 2 := Nat.pow_le_pow_right (by omega) h2
 omega
theorem zJU {s : Story} : ∀ (n : Nat) {t : Truth}, TOk s n t → ∀ x, x ∈ zC2 s n t → TOk s 0 x
 | 0, t, o, x, hx => by
  rw [zEZ] at hx
  split at hx
  ·have : x = t := by simpa using hx
   rw [this]; exact o
  ·simp at hx
 | n + 1, t, o, x, hx => by
  rw [zC2] at hx
  obtain ⟨i, _, hx⟩ := List.mem_flatMap.1 hx
  split at hx
  ·rename_i hc
   exact zJU n (o.next hc i) x hx
  ·simp at hx
theorem zHe {s : Story} (hw : ∀ w, w ∈ s.steps → w.length ≤ 3) : ∀ (n : Nat) (t : Truth), (zC2 s n t).length ≤ 3 ^ n
 | 0, t => by
  rw [zEZ]
  split <;> simp
 | n + 1, t => by
  rw [zC2]
  have hl : (zCe s t.ways.length).length ≤ 3 := by
   unfold zCe
   by_cases h : t.ways.length < s.steps.length
   ·exact hw _ (zAT h)
   ·have e : s.steps[t.ways.length]? = none := List.getElem?_eq_none (by omega)
    simp only [List.getD, e, Option.getD_none]; show ([] : List Change).length ≤ 3; simp
  have key : ∀ (k i : Nat) (g : Nat → List Truth), (∀ i, (g i).length ≤ 3 ^ n) → ((List.range' i k).flatMap g).length ≤ k * 3 ^ n := by
   intro k
   induction k with
   | zero => intro i g _; simp
   | succ k ih =>
    intro i g hg
    rw [List.range'_succ, List.flatMap_cons, List.length_append, Nat.succ_mul]
    have := ih (i + 1) g hg
    have := hg i
    omega
  refine Nat.le_trans (key _ 0 _ (fun i => ?_)) (Nat.le_trans (Nat.mul_le_mul_right (3 ^ n) hl) (by rw [Nat.pow_succ]; omega))
  split
  ·exact zHe hw n _
  ·simp
theorem zIW {s : Story} (v : Valid s.first) : ∀ x, x ∈ zAn s → TOk s 0 x := zJU _ (zHY v)
theorem zCl {s : Story} (h3 : s.steps.length ≤ 3) (hw : ∀ w, w ∈ s.steps → w.length ≤ 3) : (zAn s).length ≤ 27 :=
 Nat.le_trans (zHe hw _ _) (Nat.pow_le_pow_right (by omega) h3 : 3 ^ s.steps.length ≤ 3 ^ 3)
theorem zIa : ∀ {l : List Change}, zBr l = 0 ↔ ∀ c, c ∈ l → betw c.kind 1 7 = true
 | [] => by simp [zBr]
 | c :: r => by
  rw [zBr]
  split
  ·rename_i h; rw [zIa]; simp [h]
  ·rename_i h
   constructor
   ·intro e; omega
   ·intro e; exact absurd (e c (by simp)) h
theorem stepsErr_zero : ∀ {l : List (List Change)}, zB7 l = 0 ↔ ∀ w, w ∈ l → 0 < w.length ∧ w.length ≤ 3 ∧ zBr w = 0
 | [] => by simp [zB7]
 | w :: r => by
  rw [zB7]
  split
  ·rename_i h
   constructor
   ·intro e; omega
   ·intro e; have := e w (by simp); omega
  ·split
   ·rename_i h
    constructor
    ·intro e; omega
    ·intro e; have := e w (by simp); omega
   ·split
    ·rename_i h1 h2 h3
     rw [stepsErr_zero]
     constructor
     ·intro e x hx
      rcases List.mem_cons.1 hx with rfl | hx
      ·exact ⟨by omega, by omega, h3⟩
      ·exact e x hx
     ·intro e x hx; exact e x (by simp [hx])
    ·rename_i h3
     constructor
     ·intro e; omega
     ·intro e; exact absurd (e w (by simp)).2.2 h3
theorem factsErr_zero {p : Plan} : ∀ {l : List Fact}, zB4 p l = 0 ↔ ∀ f, f ∈ l → f.src ∈ zAJ p ∧ betw f.dst.street 0 (p.length - 1) = true ∧ f.dst.plate.ok = true
 | [] => by simp [zB4]
 | f :: r => by
  rw [zB4]
  split
  ·rename_i h
   split
   ·rename_i h2; rw [factsErr_zero]; simp [h, h2]
   ·rename_i h2
    constructor
    ·intro e; omega
    ·intro e; exact absurd (e f (by simp)).2.2 h2
  ·rename_i h
   constructor
   ·intro e; omega
   ·intro e; exact absurd ⟨(e f (by simp)).1, (e f (by simp)).2.1⟩ h
structure Told (s : Story) : Prop where
 first : Valid s.first
 steps : s.steps.length ≤ 3
 ways : ∀ w, w ∈ s.steps → 0 < w.length ∧ w.length ≤ 3 ∧ zBr w = 0
 facts : s.facts.length ≤ 4
 fact : ∀ f, f ∈ s.facts → f.src ∈ zAJ s.first ∧ betw f.dst.street 0 (s.first.length - 1) = true ∧ f.dst.plate.ok = true
theorem zDZ {s : Story} (h : zBD s = 0) : Told s := by
 unfold zBD at h
 split at h
 ·rename_i h1
  split at h
  ·omega
  ·rename_i h2
   unfold zCC at h
   split at h
   ·rename_i h3
    unfold zD1 at h
    split at h
    ·omega
    ·rename_i h4
     exact ⟨(zBY _).1 h1, by omega, stepsErr_zero.1 h3, by omega, factsErr_zero.1 h⟩
   ·rename_i h3; exact absurd h h3
 ·rename_i h1; exact absurd h h1
end Go.Abs

namespace Go.Abs
open Go
structure Dice where
 list : List Int
 at_ : Nat
 seed : Int
 deriving Inhabited
abbrev uV (n : Int) : AV := .raw (.int .u64 n)
def zA3 (d : Dice) : AObj := .box [.list (d.list.map iV), iV d.at_, uV d.seed]
def zF2 (a b : Int) : Int := IntKind.u64.wrap (BitVec.ofInt IntKind.u64.bits a ^^^ BitVec.ofInt IntKind.u64.bits b).toNat
def zLd (a : Int) (k : Nat) : Int := IntKind.u64.wrap (a * 2 ^ (min k IntKind.u64.bits))
def zDs (a : Int) (k : Nat) : Int := a.fdiv (2 ^ (min k IntKind.u64.bits))
def mix1 (s : Int) : Int := zF2 s (zLd s 13)
def mix2 (s : Int) : Int := zF2 s (zDs s 7)
def mix3 (s : Int) : Int := zF2 s (zLd s 17)
def zH7 (s : Int) : Int := mix3 (mix2 (mix1 s))
def rawS (d : Dice) : Int := if d.at_ < d.list.length then IntKind.u64.wrap (zH7 d.seed + IntKind.u64.wrap (IntKind.u64.wrap (d.list.getD d.at_ default) * 13787848793156543929)) else zH7 d.seed
def rawD (d : Dice) : Dice := ⟨d.list, if d.at_ < d.list.length then d.at_ + 1 else d.at_, rawS d⟩
def rawM (n : Int) : Int := IntKind.u64.wrap (zF2 n (zDs n 30) * 10723151780598845931)
def rawN (d : Dice) : Int := zF2 (rawM (rawS d)) (zDs (rawM (rawS d)) 31)
theorem zGL (n : Int) : 0 ≤ IntKind.u64.wrap n ∧ IntKind.u64.wrap n < 18446744073709551616 := by
 rw [IntKind.wrap_u64]; omega
theorem zKG (d : Dice) : 0 ≤ rawN d ∧ rawN d < 18446744073709551616 := zGL _
def toN (n : Int) (d : Dice) : Int := if n < 1 then 0 else (zDs (rawN d) 16).tmod (n + 1)
def toD (n : Int) (d : Dice) : Dice := if n < 1 then d else rawD d
theorem zQ5 (n : Int) (h0 : 0 ≤ n) : 0 ≤ zDs n 16 := by
 unfold zDs
 rw [Int.fdiv_eq_ediv_of_nonneg _ (by decide)]
 exact Int.ediv_nonneg h0 (by decide)
theorem zEN (n : Int) (d : Dice) : 0 ≤ toN n d ∧ (toN n d ≤ n ∨ toN n d = 0) := by
 unfold toN
 split
 ·omega
 ·have h := zQ5 _ (zKG d).1
  rw [Int.tmod_eq_emod_of_nonneg h]
  have h1 := Int.emod_nonneg (zDs (rawN d) 16) (b := n + 1) (by omega)
  have h2 := Int.emod_lt_of_pos (zDs (rawN d) 16) (b := n + 1) (by omega)
  omega
theorem zL7 {n : Int} (h : 0 ≤ n) (d : Dice) : 0 ≤ toN n d ∧ toN n d ≤ n := by
 have := zEN n d; omega
def zBs (lo hi : Int) (d : Dice) : Int := lo + toN (hi - lo) d
def zA5 (lo hi : Int) (d : Dice) : Dice := toD (hi - lo) d
theorem zCU {lo hi : Int} (h : lo ≤ hi) (d : Dice) : lo ≤ zBs lo hi d ∧ zBs lo hi d ≤ hi := by
 have := zL7 (n := hi - lo) (by omega) d
 unfold zBs; omega
def zGB (k : Int) (d : Dice) : Bool := toN (k - 1) d == 0
def zCB (k : Int) (d : Dice) : Dice := toD (k - 1) d
def zDc (x : Plate) : List Plate → List Plate
 | [] => [x]
 | y :: r => if y.lt x = true then y :: zDc x r else if y = x then y :: r else x :: y :: r
def zGa (n : Int) (b : Bool) (k : Int) (dy dn : Dice) : Plate × Dice := if b = true then (⟨n, k⟩, dy) else (⟨n, 0⟩, dn)
def zDg (d : Dice) : Plate × Dice := zGa (zBs 1 9 d) (zGB 4 (zA5 1 9 d)) (zBs 1 2 (zCB 4 (zA5 1 9 d))) (zA5 1 2 (zCB 4 (zA5 1 9 d))) (zCB 4 (zA5 1 9 d))
def zDC : Nat → Dice → List Plate → List Plate × Dice
 | 0, d, out => (out, d)
 | n + 1, d, out => zDC n (zDg d).2 (zDc (zDg d).1 out)
def zBj (d : Dice) (most : Int) : List Plate × Dice := zDC (toN most d).toNat (toD most d) []
def zCD (d : Dice) (houses : Int) : List Plate × Dice := zBj (zCB 3 d) (if zGB 3 d = true then 0 else houses)
def zBq (houses : Int) : Nat → Dice → Plan → Plan × Dice
 | 0, d, out => (out, d)
 | n + 1, d, out => zBq houses n (zCD d houses).2 (out ++ [(zCD d houses).1])
def zEG (d : Dice) (houses : Int) : Plan × Dice := zBq houses (zBs 1 3 d).toNat (zA5 1 3 d) []
theorem mem_insPl {x z : Plate} : ∀ {l : List Plate}, z ∈ zDc x l ↔ z = x ∨ z ∈ l
 | [] => by simp [zDc]
 | y :: r => by
  simp only [zDc]
  split
  ·simp only [List.mem_cons, mem_insPl (l := r)]
   constructor
   ·rintro (h | h | h) <;> simp [h]
   ·rintro (h | h | h) <;> simp [h]
  ·split
   ·rename_i e; subst e; simp
   ·simp
theorem zE5 {x : Plate} : ∀ {l : List Plate}, l.Pairwise (fun a b => a.lt b = true) → (zDc x l).Pairwise (fun a b => a.lt b = true)
 | [], _ => by simp [zDc]
 | y :: r, h => by
  obtain ⟨h1, h2⟩ := List.pairwise_cons.1 h
  simp only [zDc]
  split
  ·rename_i hy
   refine List.pairwise_cons.2 ⟨fun z hz => ?_, zE5 h2⟩
   rcases mem_insPl.1 hz with rfl | hz
   ·exact hy
   ·exact h1 z hz
  ·rename_i hy
   split
   ·exact h
   ·rename_i hne
    have hxy : x.lt y = true := by
     rcases Plate.lt_tri x y with h | h | h
     ·exact h
     ·exact absurd h.symm hne
     ·exact absurd h hy
    refine List.pairwise_cons.2 ⟨fun z hz => ?_, h⟩
    rcases List.mem_cons.1 hz with rfl | hz
    ·exact hxy
    ·exact Plate.lt_trans hxy (h1 z hz)
theorem zFe {x : Plate} : ∀ {l : List Plate}, (zDc x l).length ≤ l.length + 1
 | [] => by simp [zDc]
 | y :: r => by
  simp only [zDc]
  split
  ·simp only [List.length_cons]; have := zFe (x := x) (l := r); omega
  ·split <;> simp
theorem zG5 {x : Plate} : ∀ {l : List Plate} {k : Nat}, k ≤ l.length → (∀ j, j < k → (l.getD j default).lt x = true) → (k < l.length → (l.getD k default).lt x = false) →
  zDc x l = if k < l.length ∧ l.getD k default = x then l else l.take k ++ x :: l.drop k
 | [], k, hk, _, _ => by
  have : k = 0 := by simpa using hk
  subst this
  simp [zDc]
 | y :: r, 0, _, _, h => by
  have h0 : y.lt x = false := by simpa using h (by simp)
  simp only [zDc, h0]
  by_cases e : y = x
  ·simp [e]
  ·simp [e]
 | y :: r, k + 1, hk, hj, h => by
  have h0 : y.lt x = true := by simpa using hj 0 (by omega)
  have ih := zG5 (x := x) (l := r) (k := k) (by simpa using hk) (fun j hj' => by simpa using hj (j + 1) (by omega)) (fun hk' => by simpa using h (by simpa using hk'))
  simp only [zDc, h0, if_true, ih]
  by_cases e : k < r.length ∧ r.getD k default = x
  ·rw [if_pos e, if_pos (by simpa using e)]
  ·rw [if_neg e, if_neg (by simpa using e)]; simp
theorem zLW {n k : Int} (b : Bool) (dy dn : Dice) (h1 : 1 ≤ n ∧ n ≤ 9) (h2 : 1 ≤ k ∧ k ≤ 2) : (zGa n b k dy dn).1.ok = true := by
 unfold zGa
 split
 ·rw [zA6]; simp only; omega
 ·rw [zA6]; simp only; omega
theorem zLX (d : Dice) : (zDg d).1.ok = true := zLW _ _ _ (zCU (by omega) d) (zCU (by omega) _)
theorem zGb : ∀ (n : Nat) (d : Dice) (out : List Plate), out.length + n ≤ 8 → (∀ x, x ∈ out → x.ok = true) → out.Pairwise (fun a b => a.lt b = true) → Sound (zDC n d out).1
 | 0, d, out, hl, ho, hs => ⟨by simpa [zDC] using hl, ho, hs⟩
 | n + 1, d, out, hl, ho, hs => by
  have h1 := zFe (x := (zDg d).1) (l := out)
  refine zGb n _ _ (by omega) (fun x hx => ?_) (zE5 hs)
  rcases mem_insPl.1 hx with rfl | hx
  ·exact zLX d
  ·exact ho x hx
theorem zI7 {d : Dice} {most : Int} (h : most ≤ 8) : Sound (zBj d most).1 := by
 have := zEN most d
 exact zGb _ _ [] (by simp; omega) (by simp) (by simp)
theorem zFu {houses : Int} (h : houses ≤ 8) : ∀ (n : Nat) (d : Dice) (out : Plan), (∀ l, l ∈ out → Sound l) → (zBq houses n d out).1.length = out.length + n ∧ ∀ l, l ∈ (zBq houses n d out).1 → Sound l
 | 0, d, out, ho => ⟨rfl, ho⟩
 | n + 1, d, out, ho => by
  obtain ⟨h1, h2⟩ := zFu h n (zCD d houses).2 (out ++ [(zCD d houses).1]) (fun l hl => by
   rcases List.mem_append.1 hl with hl | hl
   ·exact ho l hl
   ·have : l = (zCD d houses).1 := by simpa using hl
    rw [this]
    exact zI7 (by split <;> omega))
  refine ⟨?_, h2⟩
  have : (zBq houses (n + 1) d out).1 = (zBq houses n (zCD d houses).2 (out ++ [(zCD d houses).1])).1 := rfl
  rw [this, h1]; simp; omega
theorem zPf {d : Dice} {houses : Int} (h : houses ≤ 8) : Valid (zEG d houses).1 := by
 have h0 := zCU (lo := 1) (hi := 3) (by omega) d
 obtain ⟨h1, h2⟩ := zFu h (zBs 1 3 d).toNat (zA5 1 3 d) [] (by simp)
 have e : (zEG d houses).1 = (zBq houses (zBs 1 3 d).toNat (zA5 1 3 d) []).1 := rfl
 simp only [List.length_nil, Nat.zero_add] at h1
 exact ⟨by rw [e, h1]; omega, by rw [e, h1]; omega, fun l hl => h2 l (by rw [← e]; exact hl)⟩
def zA1 (d : Dice) (l : List Plate) : Plate × Dice :=
 if l.length = 0 then (⟨zBs 1 9 d, 0⟩, zA5 1 9 d)
 else if zGB 12 d = true then (⟨zBs 1 9 (zCB 12 d), 0⟩, zA5 1 9 (zCB 12 d))
 else (l.getD (toN (l.length - 1) (zCB 12 d)).toNat default, toD (l.length - 1) (zCB 12 d))
def zFH (d : Dice) (p : Plan) (kind : Int) (s : Int) : Change × Dice :=
 if kind = 4 then (⟨4, s, (s + zBs 1 2 d) % p.length, zeroPlate, zeroPlate⟩, zA5 1 2 d)
 else if kind = 7 then
  let o := (s + zBs 1 2 d) % p.length
  let a := zA1 (zA5 1 2 d) (zAL p s)
  let b := zA1 a.2 (zAL p s)
  if b.1.lt a.1 = true then (⟨7, s, o, b.1, a.1⟩, b.2) else (⟨7, s, o, a.1, b.1⟩, b.2)
 else if kind = 5 ∨ kind = 6 then
  let a := zA1 d (zAL p s)
  (⟨kind, s, 0, a.1, zeroPlate⟩, a.2)
 else (⟨kind, s, 0, zeroPlate, zeroPlate⟩, d)
def zDy (d : Dice) (p : Plan) : Change × Dice := zFH (toD (p.length - 1) (zA5 1 7 d)) p (zBs 1 7 d) (toN (p.length - 1) (zA5 1 7 d))
theorem zA0 {α β : Type} {f : α → List β} : ∀ {l : List α}, (∀ a, a ∈ l → (f a).length = 1) → (l.flatMap f).length = l.length
 | [], _ => rfl
 | x :: r, h => by
  rw [List.flatMap_cons, List.length_append, h x (by simp), zA0 (fun a ha => h a (by simp [ha])), List.length_cons]; omega
theorem zCQ {α β : Type} [DecidableEq α] {f : α → List β} {a : α} : ∀ {l : List α}, l.Nodup → a ∈ l → (∀ x, x ∈ l → x ≠ a → (f x).length = 1) → (l.flatMap f).length + 1 = l.length + (f a).length
  | [], _, h, _ => by simp at h
  | x :: r, hn, hm, h => by
    obtain ⟨h1, h2⟩ := List.nodup_cons.1 hn
    rw [List.flatMap_cons, List.length_append, List.length_cons]
    by_cases e : x = a
    · subst e
      rw [zA0 (fun y hy => h y (by simp [hy]) (fun e => h1 (e ▸ hy)))]; omega
    · have hr : a ∈ r := by
        rcases List.mem_cons.1 hm with rfl | hm
        · exact absurd rfl e
        · exact hm
      have := zCQ h2 hr (fun y hy => h y (by simp [hy]))
      rw [h x (by simp) e]; omega
theorem zLe {l : List House} (h : l.Nodup) : (zA8 l).length = l.length :=
 Nat.le_antisymm (zCA (zBC l).nodup (fun _ hx => mem_sortH.1 hx)) (zCA h (fun _ hx => mem_sortH.2 hx))
theorem zM8 {p : Plan} {c : Change} (v : Valid p) (f : Fit p c) :
  ((zAJ (zAk p c)).length : Int) = (zAJ p).length + (if c.kind = 5 then 1 else if c.kind = 6 then -1 else 0) := by
 rw [zC9 v f, zLe (zC7 v f)]
 unfold zBT
 have hs := f.street
 have hone : ∀ h : House, (h.street = c.street → (toP p c h.plate).length = 1) → (mv p c h).length = 1 := fun h hh => by
  unfold mv; split
  ·rename_i e; exact hh e
  ·rfl
 rcases zHy f.kind with k | k | k | k | k | k | k
 ·rw [zA0 (fun h _ => hone h (fun _ => by rw [zDu k]; rfl))]; simp [k]
 ·rw [zA0 (fun h _ => hone h (fun _ => by rw [zDL k]; rfl))]; simp [k]
 ·rw [zA0 (fun h _ => hone h (fun _ => by rw [zCx k]; rfl))]; simp [k]
 ·rw [zA0 (fun h _ => hone h (fun _ => by rw [zDK k]; rfl))]; simp [k]
 ·have hin := (zBu k f.fits).1
  have hm : (⟨c.street, c.src⟩ : House) ∈ zAJ p := mem_houses.2 ⟨hs.1, hs.2, hin⟩
  have := zCQ v.nodup hm (f := mv p c) (fun x _ hx => hone x (fun e => by
   rw [zBV k, if_neg (fun e2 => hx (by cases x; simp_all))]; rfl))
  have h2 : (mv p c ⟨c.street, c.src⟩).length = 2 := by simp [mv, zBV k]
  rw [h2] at this
  simp only [k, if_true]; omega
 ·have hin := zKj k f.fits
  have hm : (⟨c.street, c.src⟩ : House) ∈ zAJ p := mem_houses.2 ⟨hs.1, hs.2, hin⟩
  have := zCQ v.nodup hm (f := mv p c) (fun x _ hx => hone x (fun e => by
   rw [zCy k, if_neg (fun e2 => hx (by cases x; simp_all))]; rfl))
  have h2 : (mv p c ⟨c.street, c.src⟩).length = 0 := by simp [mv, zCy k]
  rw [h2] at this
  rw [if_neg (by omega), if_pos k]; omega
 ·rw [zA0 (fun h _ => hone h (fun _ => by rw [zCX k]; split <;> rfl))]; simp [k]
end Go.Abs

namespace Go.Abs
open Go
def zCR (l : List Truth) (h : House) (x : Truth) : Nat := l.countP fun y => decide (x.now h = y.now h)
def zBL (l : List Truth) (h : House) : Nat := l.foldl (fun m x => max m (zCR l h x)) 0
def zCb (g : List Nat) : List Nat → Nat → Int → Int
 | [], _, at_ => at_
 | x :: r, i, at_ => zCb g r (i + 1) (if at_ < 0 ∨ x < g.getD at_.toNat 0 then i else at_)
def zCP (g : List Nat) : Int := zCb g g 0 (-1)
def zCn (s : Story) : List Nat := (zAJ s.first).map (zBL (zAn s))
def zMG (s : Story) : Option (House × Nat) :=
 if (zAn s).length = 0 ∨ zCP (zCn s) < 0 ∨ (zCn s).getD (zCP (zCn s)).toNat 0 = (zAn s).length then none
 else some ((zAJ s.first).getD (zCP (zCn s)).toNat default, (zCn s).getD (zCP (zCn s)).toNat 0)
def zF1 (s : Story) (h : House) : List House := (zAn s).flatMap fun t => t.now h
def zDb (s : Story) (h : House) : Int := if zBD s = 0 then if h ∈ zAJ s.first then if zAn s = [] then 11 else 0 else 3 else zBD s
def zJH (s : Story) (h : House) : List House := zA8 (zF1 s h)
def zJi (s : Story) : List (List Int) := (zAn s).map fun t => t.ways
def zRM (s : Story) : Int := if zBD s = 0 then (if (zMG s).isSome = true then 0 else 11) else zBD s
def rowX (l : List Int) : List Plate := l.map fun n => ⟨n, 0⟩
def townX : Plan := [rowX [1, 2, 3, 4, 5], rowX [1, 2], []]
def atX (s n : Int) : House := ⟨s, ⟨n, 0⟩⟩
def zHw : Change := ⟨4, 1, 0, zeroPlate, zeroPlate⟩
def zRG : Change := ⟨1, 0, 0, zeroPlate, zeroPlate⟩
def zQ8 : Change := ⟨2, 0, 0, zeroPlate, zeroPlate⟩
def zML : Change := ⟨6, 0, 0, ⟨3, 0⟩, zeroPlate⟩
def taleX : Story := ⟨townX, [[zRG, zQ8], [zHw]], []⟩
def zMV : Plan := [rowX [1, 2, 3, 4, 5, 7, 8], [], []]
def zMW : Plan := [rowX [1, 2, 4, 5, 7, 8], [], []]
theorem zPx : zBH townX zHw = 0 := by kernel_rfl
theorem zOD : zAk townX zHw = zMV := by kernel_rfl
theorem zJK : zBD taleX = 0 := by kernel_rfl
theorem zNJ : zJi taleX = [[0, 0], [1, 0]] := by kernel_rfl
theorem zJj : zF1 taleX (atX 0 1) = [atX 0 5, atX 0 2] := by kernel_rfl
theorem zKW : zDb taleX (atX 0 1) = 0 := by
 unfold zDb
 rw [if_pos zJK, if_pos (by decide), if_neg]
 intro h
 have := zNJ
 unfold zJi at this
 rw [h] at this
 cases this
theorem zOF : zJH taleX (atX 0 1) = [atX 0 2, atX 0 5] := by kernel_rfl
theorem zRJ : zMG taleX = some (atX 0 1, 1) := by kernel_rfl
theorem zOE : zEb townX zMW = some [zHw, zML] := by kernel_rfl
end Go.Abs

namespace Go.Abs
open Go
theorem zIw {x : House} : ∀ {l : List House} {k : Nat}, k ≤ l.length → (∀ j, j < k → (l.getD j default).lt x = true) → (k < l.length → (l.getD k default).lt x = false) →
  insH x l = if k < l.length ∧ l.getD k default = x then l else l.take k ++ x :: l.drop k
 | [], k, hk, _, _ => by
  have : k = 0 := by simpa using hk
  subst this
  simp [insH]
 | y :: r, 0, _, _, h => by
  have h0 : y.lt x = false := by simpa using h (by simp)
  simp only [insH, h0]
  by_cases e : y = x
  ·simp [e]
  ·simp [e]
 | y :: r, k + 1, hk, hj, h => by
  have h0 : y.lt x = true := by simpa using hj 0 (by omega)
  have ih := zIw (x := x) (l := r) (k := k) (by simpa using hk) (fun j hj' => by simpa using hj (j + 1) (by omega)) (fun hk' => by simpa using h (by simpa using hk'))
  simp only [insH, h0, if_true, ih]
  by_cases e : k < r.length ∧ r.getD k default = x
  ·rw [if_pos e, if_pos (by simpa using e)]
  ·rw [if_neg e, if_neg (by simpa using e)]; simp
theorem zG4 {x : House} : ∀ {l : List House}, (insH x l).length ≤ l.length + 1
 | [] => by simp [insH]
 | y :: r => by
  simp only [insH]
  split
  ·simp only [List.length_cons]; have := zG4 (x := x) (l := r); omega
  ·split <;> simp
theorem zD3 : ∀ (l out : List House), (l.foldl (fun out x => insH x out) out).length ≤ out.length + l.length
 | [], out => by simp
 | x :: r, out => by
  have h1 := zD3 r (insH x out)
  have h2 := zG4 (x := x) (l := out)
  simp only [List.foldl_cons, List.length_cons]; omega
structure Move where
 src : House
 dst : House
 deriving DecidableEq, Inhabited
@[reducible] def Move.enc (m : Move) : AV := .agg [iV m.src.street, iV m.src.plate.number, iV m.src.plate.letter, iV m.dst.street, iV m.dst.plate.number, iV m.dst.plate.letter]
attribute [go_sem] Move.enc
def zBh (p : Plan) (c : Change) : List Move := (zAJ p).flatMap fun h => (mv p c h).map fun z => ⟨h, z⟩
theorem zLH (p : Plan) (c : Change) : (zBh p c).map Move.dst = zBT p c := by
 unfold zBh zBT
 rw [List.map_flatMap]
 simp [Function.comp_def]
theorem zGY (p : Plan) (c : Change) (h : House) : (mv p c h).length ≤ 2 := by
 unfold mv toP
 repeat' split
 all_goals simp
theorem zH9 (p : Plan) (c : Change) : (zBh p c).length ≤ 2 * (zAJ p).length := by
 unfold zBh
 have : ∀ l : List House, (l.flatMap fun h => (mv p c h).map fun z => (⟨h, z⟩ : Move)).length ≤ 2 * l.length := fun l => by
  induction l with
  | nil => simp
  | cons x r ih =>
   have := zGY p c x
   simp only [List.flatMap_cons, List.length_append, List.length_map, List.length_cons]; omega
 exact this _
def zCg (p : Plan) (c : Change) (h : House) : Int := if zBH p c = 0 then (if h ∈ zAJ p then 0 else 3) else zBH p c
def zDw (p : Plan) (c : Change) (h : House) : List House := if zCg p c h = 0 then zA8 (mv p c h) else []
def zEO (p : Plan) (c : Change) (h : House) : Option House := (zAJ p).find? fun x => decide (h ∈ mv p c x)
def zIY (p : Plan) (c : Change) (h : House) : Int := if zBH p c = 0 then (if (zEO p c h).isSome = true then 0 else 3) else zBH p c
end Go.Abs

namespace Go.Abs
open Go Go.Proofs
structure Plate.Wf (x : Plate) : Prop where
 n : (Lit.int .i64 x.number).wf = true
 l : (Lit.int .i64 x.letter).wf = true
structure PlanB (N : Nat) (p : Plan) : Prop where
 len : p.length ≤ N
 rows : ∀ l, l ∈ p → l.length ≤ N
 wf : ∀ l, l ∈ p → ∀ x, x ∈ l → x.Wf
structure Bound (N : Nat) (s : Story) : Prop where
 first : PlanB N s.first
 steps : s.steps.length ≤ N
 ways : ∀ w, w ∈ s.steps → w.length ≤ N
 facts : s.facts.length ≤ N
 wf : ∀ f, f ∈ s.facts → f.src.Wf ∧ f.dst.Wf
theorem PlanB.house {N : Nat} {p : Plan} (b : PlanB N p) (hN : N ≤ 4294967296) : ∀ h, h ∈ zAJ p → h.Wf := fun h hh => by
 obtain ⟨h0, h1, h2⟩ := mem_houses.1 hh
 have hl := b.len
 have w := b.wf _ (zLZ h0 h1) _ h2
 exact ⟨zFJ (by omega) (by omega), w.n, w.l⟩
theorem zQA {p : Plan} {c : Change} (h : zBH p c = 0) : Valid p ∧ Fit p c := by
 unfold zBH at h
 split at h
 ·rename_i hc; exact ⟨(zBY p).1 hc, Fit.of_can h⟩
 ·rename_i hc; exact absurd h hc
theorem zJh {p : Plan} {c : Change} {h x : House} (e : zEO p c h = some x) : x ∈ zAJ p ∧ h ∈ mv p c x := by
 unfold zEO at e
 exact ⟨List.mem_of_find?_eq_some e, by simpa using List.find?_some e⟩
theorem zMx {p : Plan} {c : Change} {h : House} (e : zEO p c h = none) : ∀ x, x ∈ zAJ p → h ∉ mv p c x := fun x hx => by
 unfold zEO at e
 simpa using List.find?_eq_none.1 e x hx
theorem zMy {p : Plan} {c : Change} {h x : House} (v : Valid p) (f : Fit p c) (hx : x ∈ zAJ p) (hm : h ∈ mv p c x) : zEO p c h = some x := by
 cases e : zEO p c h with
 | none => exact absurd hm (zMx e x hx)
 | some y =>
  obtain ⟨h1, h2⟩ := zJh e
  rw [zLI v f h1 hx h2 hm]
theorem zRH {p : Plan} {c : Change} {h : House} (hn : ∀ x, x ∈ zAJ p → h ∉ mv p c x) : zEO p c h = none := by
 cases e : zEO p c h with
 | none => rfl
 | some y =>
  obtain ⟨h1, h2⟩ := zJh e
  exact absurd h2 (hn y h1)
theorem zPw {p : Plan} {c : Change} {h : House} (v : Valid p) (f : Fit p c) (hh : h ∈ zAJ (zAk p c)) : ∃ x, zEO p c h = some x ∧ x ∈ zAJ p ∧ h ∈ mv p c x := by
 rw [zC9 v f, mem_sortH] at hh
 obtain ⟨x, h1, h2⟩ := mem_flatMv.1 hh
 exact ⟨x, zMy v f h1 h2, h1, h2⟩
def zeroH : House := ⟨0, ⟨0, 0⟩⟩
def wasH (p : Plan) (c : Change) (h : House) : House := if zIY p c h = 0 then (zEO p c h).getD zeroH else zeroH
theorem zQZ {p : Plan} {c : Change} {h : House} :
  (zBH p c ≠ 0 ∧ zIY p c h = zBH p c ∧ wasH p c h = zeroH) ∨ (zBH p c = 0 ∧ zEO p c h = none ∧ zIY p c h = 3 ∧ wasH p c h = zeroH) ∨ (zBH p c = 0 ∧ zIY p c h = 0 ∧ zEO p c h = some (wasH p c h)) := by
 unfold wasH zIY
 by_cases e : zBH p c = 0
 ·cases w : zEO p c h with
  | none => right; left; simp [e]
  | some x => right; right; simp [e]
 ·left; simp [e]
theorem zM4 {p : Plan} {c : Change} {h : House} :
  (zBH p c ≠ 0 ∧ zCg p c h = zBH p c ∧ zDw p c h = []) ∨ (zBH p c = 0 ∧ h ∉ zAJ p ∧ zCg p c h = 3 ∧ zDw p c h = []) ∨ (zBH p c = 0 ∧ h ∈ zAJ p ∧ zCg p c h = 0 ∧ zDw p c h = zA8 (mv p c h)) := by
 unfold zDw zCg
 by_cases e : zBH p c = 0
 ·by_cases m : h ∈ zAJ p
  ·right; right; simp [e, m]
  ·right; left; simp [e, m]
 ·left; simp [e]
theorem zPJ {p : Plan} {N : Nat} (h : ∀ l, l ∈ p → l.length ≤ N) : (zAJ p).length ≤ p.length * N := by
 have key : ∀ (p : Plan) (k : Nat), (∀ l, l ∈ p → l.length ≤ N) → (zAf k p).length ≤ p.length * N := by
  intro p
  induction p with
  | nil => intro k _; simp [zAf]
  | cons l r ih =>
   intro k h
   have h1 := h l (by simp)
   have h2 := ih (k + 1) (fun x hx => h x (by simp [hx]))
   simp only [zAf, List.length_append, List.length_map, List.length_cons, Nat.succ_mul]; omega
 exact key p 0 h
end Go.Abs

namespace Go.Abs
open Go Go.Proofs
attribute [local irreducible] zAC Hold zAN
@[reducible] def zBe (l : List Int) : AV := .list (l.map iV)
attribute [go_sem] zBe
theorem zLg (a b : List Int) (h1 : a.length ≤ 4294967296) : Spec Tryz.prog 61 [zBe a, zBe b] [] (bV (decide (a = b))) [] := by
 refine zAF Tryz.func61 rfl (fun E hE => ?_); simp only [go_sem, Tryz.ntmps61]
 repeat' (first | (show zAC ..; first | (refine Qr rfl ?_; try intro K' hK; try simp only [go_sem, *])) | (show Hold ..; first | refine Qh rfl ?_ | refine zAG rfl Tryz.mixed (by kernel_rfl) ?_ | (refine zAD rfl ⟨_, rfl, fun hb => ?_, fun hb => ?_⟩ <;> (have hc := hb; try simp only [go_sem] at hc)) | refine zAI rfl ?_) | (refine Qb ?_ ?_; focus kernel_rfl) | ((with_reducible refine And.intro ?_ ?_); focus omega) | (refine zAB hK ?_; clear hK K'; simp only [go_sem, *]) | (simp only [zAH, zAA, go_sem, *]))
 ·(refine ⟨[_], [], [], ⟨rfl, trivial⟩, ?_⟩; simp only [go_sem, *])
  simp [zEA (a := a) (b := b) (by assumption)]
 ·have hlb : a.length = b.length := by assumption
  refine zAQ rfl (fun zn zN zenv zAs => ∃ (i : Nat), zn = (b.length) - i ∧ i ≤ (b.length) ∧ (a.take i = b.take i) ∧ zN = 26 ∧ zenv = [(5, iV i), (0, zBe a), (1, zBe b)] ∧ zAs = []) (b.length) ⟨[], [], _, _, _, (by (simp only [Weak, go_sem, List.map_append, List.map_set, *] <;> (try simp (disch := omega) only [zAE]) <;> (try simp) <;> (try omega))), 0, (by simp), (by simp), (by simp), rfl, rfl, rfl⟩ ?_; rintro _ _ _ _ ⟨i, rfl, hi, hP, rfl, rfl, rfl⟩
  repeat' (first | (show zAC ..; first | (refine Qr rfl ?_; try intro K' hK; try simp only [go_sem, *])) | (show Hold ..; first | refine Qh rfl ?_ | refine zAG rfl Tryz.mixed (by kernel_rfl) ?_ | (refine zAD rfl ⟨_, rfl, fun hb => ?_, fun hb => ?_⟩ <;> (have hc := hb; try simp only [go_sem] at hc)) | refine zAI rfl ?_) | (refine Qb ?_ ?_; focus kernel_rfl) | ((with_reducible refine And.intro ?_ ?_); focus omega) | (refine zAB hK ?_; clear hK K'; simp only [go_sem, *]) | (simp only [zAH, zAA, go_sem, *]))
  ·(refine ⟨[_], [], [], ⟨rfl, trivial⟩, ?_⟩; simp only [go_sem, *])
   simp [zHM (a := a) (b := b) (i := i) (by assumption)]
  ·refine ⟨_, (by omega), [], [], _, _, _, (by (simp only [Weak, go_sem, List.map_append, List.map_set, *] <;> (try simp (disch := omega) only [zAE]) <;> (try simp) <;> (try omega))), i + 1, rfl, (by omega), (by exact zCw (by omega) (by omega) hP (by assumption)), rfl, rfl, rfl⟩
  ·(refine ⟨[_], [], [], ⟨rfl, trivial⟩, ?_⟩; simp only [go_sem, *])
   simp [zEM (by omega) hlb hP]
theorem zKK (a b : List (List Int)) (h1 : a.length ≤ 4294967296) (hrl : ∀ l, l ∈ a → l.length ≤ 4294967296) : Spec Tryz.prog 44 [.list (a.map zBe), .list (b.map zBe)] [] (bV (decide (a = b))) [] := by
 refine zAF Tryz.func44 rfl (fun E hE => ?_); simp only [go_sem, Tryz.ntmps44]
 repeat' (first | (show zAC ..; first | (refine Qr rfl ?_; try intro K' hK; try simp only [go_sem, *])) | (show Hold ..; first | refine Qh rfl ?_ | refine zAG rfl Tryz.mixed (by kernel_rfl) ?_ | (refine zAD rfl ⟨_, rfl, fun hb => ?_, fun hb => ?_⟩ <;> (have hc := hb; try simp only [go_sem] at hc)) | refine zAI rfl ?_) | (refine Qb ?_ ?_; focus kernel_rfl) | ((with_reducible refine And.intro ?_ ?_); focus omega) | (refine zAB hK ?_; clear hK K'; simp only [go_sem, *]) | (simp only [zAH, zAA, go_sem, *]))
 ·(refine ⟨[_], [], [], ⟨rfl, trivial⟩, ?_⟩; simp only [go_sem, *])
  simp [zEA (a := a) (b := b) (by assumption)]
 ·have hlb : a.length = b.length := by assumption
  refine zAQ rfl (fun zn zN zenv zAs => ∃ (i : Nat), zn = (b.length) - i ∧ i ≤ (b.length) ∧ (a.take i = b.take i) ∧ zN = 27 ∧ zenv = [(5, iV i), (0, .list (a.map zBe)), (1, .list (b.map zBe))] ∧ zAs = []) (b.length) ⟨[], [], _, _, _, (by (simp only [Weak, go_sem, List.map_append, List.map_set, *] <;> (try simp (disch := omega) only [zAE]) <;> (try simp) <;> (try omega))), 0, (by simp), (by simp), (by simp), rfl, rfl, rfl⟩ ?_; rintro _ _ _ _ ⟨i, rfl, hi, hP, rfl, rfl, rfl⟩
  repeat' (first | (show zAC ..; first | (refine Qr rfl ?_; try intro K' hK; try simp only [go_sem, *])) | (show Hold ..; first | refine Qh rfl ?_ | refine zAG rfl Tryz.mixed (by kernel_rfl) ?_ | (refine zAD rfl ⟨_, rfl, fun hb => ?_, fun hb => ?_⟩ <;> (have hc := hb; try simp only [go_sem] at hc)) | refine zAI rfl ?_) | (refine Qb ?_ ?_; focus kernel_rfl) | (show zAN ..; first | (refine zAK (zLg (List.getD a i default) (List.getD b i default) (hrl _ (zAT (by omega)))) ?_ ?_; (focus (simp only [go_sem, *]; done)); simp only [go_sem, *])) | ((with_reducible refine And.intro ?_ ?_); focus omega) | (refine zAB hK ?_; clear hK K'; simp only [go_sem, *]) | (simp only [zAH, zAA, go_sem, *]))
  ·(refine ⟨[_], [], [], ⟨rfl, trivial⟩, ?_⟩; simp only [go_sem, *])
   simp [zHM (a := a) (b := b) (i := i) (by assumption)]
  ·refine ⟨_, (by omega), [], [], _, _, _, (by (simp only [Weak, go_sem, List.map_append, List.map_set, *] <;> (try simp (disch := omega) only [zAE]) <;> (try simp) <;> (try omega))), i + 1, rfl, (by omega), (by exact zCw (by omega) (by omega) hP (by assumption)), rfl, rfl, rfl⟩
  ·(refine ⟨[_], [], [], ⟨rfl, trivial⟩, ?_⟩; simp only [go_sem, *])
   simp [zEM (by omega) hlb hP]
theorem zJC (a b : List House) (h1 : a.length ≤ 4294967296) : Spec Tryz.prog 37 [zAi a, zAi b] [] (bV (decide (a = b))) [] := by
 refine zAF Tryz.func37 rfl (fun E hE => ?_); simp only [go_sem, Tryz.ntmps37]
 repeat' (first | (show zAC ..; first | (refine Qr rfl ?_; try intro K' hK; try simp only [go_sem, *])) | (show Hold ..; first | refine Qh rfl ?_ | refine zAG rfl Tryz.mixed (by kernel_rfl) ?_ | (refine zAD rfl ⟨_, rfl, fun hb => ?_, fun hb => ?_⟩ <;> (have hc := hb; try simp only [go_sem] at hc)) | refine zAI rfl ?_) | (refine Qb ?_ ?_; focus kernel_rfl) | ((with_reducible refine And.intro ?_ ?_); focus omega) | (refine zAB hK ?_; clear hK K'; simp only [go_sem, *]) | (simp only [zAH, zAA, go_sem, *]))
 ·(refine ⟨[_], [], [], ⟨rfl, trivial⟩, ?_⟩; simp only [go_sem, *])
  simp [zEA (a := a) (b := b) (by assumption)]
 ·have hlb : a.length = b.length := by assumption
  refine zAQ rfl (fun zn zN zenv zAs => ∃ (i : Nat), zn = (b.length) - i ∧ i ≤ (b.length) ∧ (a.take i = b.take i) ∧ zN = 26 ∧ zenv = [(5, iV i), (0, zAi a), (1, zAi b)] ∧ zAs = []) (b.length) ⟨[], [], _, _, _, (by (simp only [Weak, go_sem, List.map_append, List.map_set, *] <;> (try simp (disch := omega) only [zAE]) <;> (try simp) <;> (try omega))), 0, (by simp), (by simp), (by simp), rfl, rfl, rfl⟩ ?_; rintro _ _ _ _ ⟨i, rfl, hi, hP, rfl, rfl, rfl⟩
  repeat' (first | (show zAC ..; first | (refine Qr rfl ?_; try intro K' hK; try simp only [go_sem, *])) | (show Hold ..; first | refine Qh rfl ?_ | refine zAG rfl Tryz.mixed (by kernel_rfl) ?_ | (refine zAD rfl ⟨_, rfl, fun hb => ?_, fun hb => ?_⟩ <;> (have hc := hb; try simp only [go_sem] at hc)) | refine zAI rfl ?_) | (refine Qb ?_ ?_; focus kernel_rfl) | ((with_reducible refine And.intro ?_ ?_); focus omega) | (refine zAB hK ?_; clear hK K'; simp only [go_sem, *]) | (simp only [zAH, zAA, go_sem, *]))
  ·(refine ⟨[_], [], [], ⟨rfl, trivial⟩, ?_⟩; simp only [go_sem, *])
   simp [zHM (a := a) (b := b) (i := i) (by assumption)]
  ·refine ⟨_, (by omega), [], [], _, _, _, (by (simp only [Weak, go_sem, List.map_append, List.map_set, *] <;> (try simp (disch := omega) only [zAE]) <;> (try simp) <;> (try omega))), i + 1, rfl, (by omega), (by exact zCw (by omega) (by omega) hP (by assumption)), rfl, rfl, rfl⟩
  ·(refine ⟨[_], [], [], ⟨rfl, trivial⟩, ?_⟩; simp only [go_sem, *])
   simp [zEM (by omega) hlb hP]
theorem zII (a b : List Change) (h1 : a.length ≤ 4294967296) : Spec Tryz.prog 33 [.list (a.map Change.enc), .list (b.map Change.enc)] [] (bV (decide (a = b))) [] := by
 refine zAF Tryz.func33 rfl (fun E hE => ?_); simp only [go_sem, Tryz.ntmps33]
 repeat' (first | (show zAC ..; first | (refine Qr rfl ?_; try intro K' hK; try simp only [go_sem, *])) | (show Hold ..; first | refine Qh rfl ?_ | refine zAG rfl Tryz.mixed (by kernel_rfl) ?_ | (refine zAD rfl ⟨_, rfl, fun hb => ?_, fun hb => ?_⟩ <;> (have hc := hb; try simp only [go_sem] at hc)) | refine zAI rfl ?_) | (refine Qb ?_ ?_; focus kernel_rfl) | ((with_reducible refine And.intro ?_ ?_); focus omega) | (refine zAB hK ?_; clear hK K'; simp only [go_sem, *]) | (simp only [zAH, zAA, go_sem, *]))
 ·(refine ⟨[_], [], [], ⟨rfl, trivial⟩, ?_⟩; simp only [go_sem, *])
  simp [zEA (a := a) (b := b) (by assumption)]
 ·have hlb : a.length = b.length := by assumption
  refine zAQ rfl (fun zn zN zenv zAs => ∃ (i : Nat), zn = (b.length) - i ∧ i ≤ (b.length) ∧ (a.take i = b.take i) ∧ zN = 26 ∧ zenv = [(5, iV i), (0, .list (a.map Change.enc)), (1, .list (b.map Change.enc))] ∧ zAs = []) (b.length) ⟨[], [], _, _, _, (by (simp only [Weak, go_sem, List.map_append, List.map_set, *] <;> (try simp (disch := omega) only [zAE]) <;> (try simp) <;> (try omega))), 0, (by simp), (by simp), (by simp), rfl, rfl, rfl⟩ ?_; rintro _ _ _ _ ⟨i, rfl, hi, hP, rfl, rfl, rfl⟩
  repeat' (first | (show zAC ..; first | (refine Qr rfl ?_; try intro K' hK; try simp only [go_sem, *])) | (show Hold ..; first | refine Qh rfl ?_ | refine zAG rfl Tryz.mixed (by kernel_rfl) ?_ | (refine zAD rfl ⟨_, rfl, fun hb => ?_, fun hb => ?_⟩ <;> (have hc := hb; try simp only [go_sem] at hc)) | refine zAI rfl ?_) | (refine Qb ?_ ?_; focus kernel_rfl) | ((with_reducible refine And.intro ?_ ?_); focus omega) | (refine zAB hK ?_; clear hK K'; simp only [go_sem, *]) | (simp only [zAH, zAA, go_sem, *]))
  ·(refine ⟨[_], [], [], ⟨rfl, trivial⟩, ?_⟩; simp only [go_sem, *])
   simp [zHM (a := a) (b := b) (i := i) (by assumption)]
  ·refine ⟨_, (by omega), [], [], _, _, _, (by (simp only [Weak, go_sem, List.map_append, List.map_set, *] <;> (try simp (disch := omega) only [zAE]) <;> (try simp) <;> (try omega))), i + 1, rfl, (by omega), (by exact zCw (by omega) (by omega) hP (by assumption)), rfl, rfl, rfl⟩
  ·(refine ⟨[_], [], [], ⟨rfl, trivial⟩, ?_⟩; simp only [go_sem, *])
   simp [zEM (by omega) hlb hP]
theorem zKL (a b : Plan) (h1 : a.length ≤ 4294967296) (hrl : ∀ l, l ∈ a → l.length ≤ 4294967296) : Spec Tryz.prog 29 [zAO a, zAO b] [] (bV (decide (a = b))) [] := by
 refine zAF Tryz.func29 rfl (fun E hE => ?_); simp only [go_sem, Tryz.ntmps29]
 repeat' (first | (show zAC ..; first | (refine Qr rfl ?_; try intro K' hK; try simp only [go_sem, *])) | (show Hold ..; first | refine Qh rfl ?_ | refine zAG rfl Tryz.mixed (by kernel_rfl) ?_ | (refine zAD rfl ⟨_, rfl, fun hb => ?_, fun hb => ?_⟩ <;> (have hc := hb; try simp only [go_sem] at hc)) | refine zAI rfl ?_) | (refine Qb ?_ ?_; focus kernel_rfl) | ((with_reducible refine And.intro ?_ ?_); focus omega) | (refine zAB hK ?_; clear hK K'; simp only [go_sem, *]) | (simp only [zAH, zAA, go_sem, *]))
 ·(refine ⟨[_], [], [], ⟨rfl, trivial⟩, ?_⟩; simp only [go_sem, *])
  simp [zEA (a := a) (b := b) (by assumption)]
 ·have hlb : a.length = b.length := by assumption
  refine zAQ rfl (fun zn zN zenv zAs => ∃ (i : Nat), zn = (b.length) - i ∧ i ≤ (b.length) ∧ (a.take i = b.take i) ∧ zN = 61 ∧ zenv = [(5, iV i), (2, .ptr 0 0), (3, .ptr 1 0)] ∧ zAs = [pBox a, pBox b]) (b.length) ⟨[some 0, some 1], [], _, _, _, (by (simp only [Weak, go_sem, List.map_append, List.map_set, *] <;> (try simp (disch := omega) only [zAE]) <;> (try simp) <;> (try omega))), 0, (by simp), (by simp), (by simp), rfl, rfl, rfl⟩ ?_; rintro _ _ _ _ ⟨i, rfl, hi, hP, rfl, rfl, rfl⟩
  by_cases hi2 : i < b.length
  ·have hra := hrl _ (zAT (l := a) (i := i) (by omega))
   have hia : i < a.length := by omega
   obtain ⟨e1, he1⟩ : ∃ e1, e1 = a.getD i default := ⟨_, rfl⟩
   obtain ⟨e2, he2⟩ : ∃ e2, e2 = b.getD i default := ⟨_, rfl⟩
   have nx0 : e1 = e2 → a.take (i + 1) = b.take (i + 1) := fun e => zCw (by omega) (by omega) hP (by rw [← he1, ← he2]; exact e)
   have no0 : ¬ e1 = e2 → ¬ a = b := fun e => zHM (i := i) (by rw [← he1, ← he2]; exact e)
   rw [← he1] at hra
   repeat' (first | (show zAC ..; first | (refine Qr rfl ?_; try intro K' hK; try simp only [go_sem, *])) | (show Hold ..; first | refine Qh rfl ?_ | refine zAG rfl Tryz.mixed (by kernel_rfl) ?_ | (refine zAD rfl ⟨_, rfl, fun hb => ?_, fun hb => ?_⟩ <;> (have hc := hb; try simp only [go_sem] at hc)) | refine zAI rfl ?_) | (refine Qb ?_ ?_; focus kernel_rfl) | ((with_reducible refine And.intro ?_ ?_); focus omega) | (refine zAB hK ?_; clear hK K'; simp only [go_sem, *]) | (simp only [zAH, zAA, go_sem, *]))
   ·rw [← he1, ← he2] at *
    (refine ⟨[_], [], [], ⟨rfl, trivial⟩, ?_⟩; simp only [go_sem, *])
    simp [no0 (zEA (by assumption))]
   ·have hl2 : (a.getD i default).length = (b.getD i default).length := by assumption
    have hkb : (b.getD i default).length ≤ 4294967296 := by rw [← hl2, ← he1]; exact hra
    refine zAQ rfl (fun zn zN zenv zAs => ∃ (k : Nat), zn = ((b.getD i default).length) - k ∧ k ≤ ((b.getD i default).length) ∧ ((a.getD i default).take k = (b.getD i default).take k) ∧ zN = 61 ∧ zenv = [(6, iV k), (5, iV i), (2, .ptr 0 0), (3, .ptr 1 0)] ∧ zAs = [pBox a, pBox b]) ((b.getD i default).length) ⟨[some 0, some 1], [], _, _, _, (by (simp only [Weak, go_sem, List.map_append, List.map_set, *] <;> (try simp (disch := omega) only [zAE]) <;> (try simp) <;> (try omega))), 0, (by simp), (by simp), (by simp), rfl, rfl, rfl⟩ ?_; rintro _ _ _ _ ⟨k, rfl, hk, hQ, rfl, rfl, rfl⟩
    repeat' (first | (show zAC ..; first | (refine Qr rfl ?_; try intro K' hK; try simp only [go_sem, *])) | (show Hold ..; first | refine Qh rfl ?_ | refine zAG rfl Tryz.mixed (by kernel_rfl) ?_ | (refine zAD rfl ⟨_, rfl, fun hb => ?_, fun hb => ?_⟩ <;> (have hc := hb; try simp only [go_sem] at hc)) | refine zAI rfl ?_) | (refine Qb ?_ ?_; focus kernel_rfl) | ((with_reducible refine And.intro ?_ ?_); focus omega) | (refine zAB hK ?_; clear hK K'; simp only [go_sem, *]) | (simp only [zAH, zAA, go_sem, *]))
    ·(refine ⟨[_], [], [], ⟨rfl, trivial⟩, ?_⟩; simp only [go_sem, *])
     simp [no0 (by rw [he1, he2]; exact zHM (i := k) (by assumption))]
    ·refine ⟨_, (by omega), [some 0, some 1], [], _, _, _, (by (simp only [Weak, go_sem, List.map_append, List.map_set, *] <;> (try simp (disch := omega) only [zAE]) <;> (try simp) <;> (try omega))), k + 1, rfl, (by omega), (by exact zCw (by omega) (by omega) hQ (by assumption)), rfl, rfl, rfl⟩
    ·refine ⟨_, (by omega), [some 0, some 1], [], _, _, _, (by (simp only [Weak, go_sem, List.map_append, List.map_set, *] <;> (try simp (disch := omega) only [zAE]) <;> (try simp) <;> (try omega))), i + 1, rfl, (by omega), (by exact nx0 (by rw [he1, he2]; exact zEM (by omega) hl2 hQ)), rfl, rfl, rfl⟩
  ·repeat' (first | (show zAC ..; first | (refine Qr rfl ?_; try intro K' hK; try simp only [go_sem, *])) | (show Hold ..; first | refine Qh rfl ?_ | refine zAG rfl Tryz.mixed (by kernel_rfl) ?_ | (refine zAD rfl ⟨_, rfl, fun hb => ?_, fun hb => ?_⟩ <;> (have hc := hb; try simp only [go_sem] at hc)) | refine zAI rfl ?_) | (refine Qb ?_ ?_; focus kernel_rfl) | ((with_reducible refine And.intro ?_ ?_); focus omega) | (refine zAB hK ?_; clear hK K'; simp only [go_sem, *]) | (simp only [zAH, zAA, go_sem, *]))
   (refine ⟨[_], [], [], ⟨rfl, trivial⟩, ?_⟩; simp only [go_sem, *])
   simp [zEM (by omega) hlb hP]
theorem zJg (l : List Int) (h1 : l.length ≤ 1000) : Spec Tryz.prog 81 [zBe l] [] (zAM (rowX l)) [] := by
 refine zAF Tryz.func81 rfl (fun E hE => ?_); simp only [go_sem, Tryz.ntmps81]
 repeat' (first | (show zAC ..; first | (refine Qr rfl ?_; try intro K' hK; try simp only [go_sem, *])) | (show Hold ..; first | refine Qh rfl ?_ | (refine zAD rfl ⟨_, rfl, fun hb => ?_, fun hb => ?_⟩ <;> (have hc := hb; try simp only [go_sem] at hc)) | refine zAI rfl ?_) | ((with_reducible refine And.intro ?_ ?_); focus omega) | (refine zAB hK ?_; clear hK K'; simp only [go_sem, *]) | (simp only [zAH, zAA, go_sem, *]))
 refine zAQ rfl (fun zn zN zenv zAs => ∃ (i : Nat) (acc : List Plate), zn = (l.length) - i ∧ i ≤ (l.length) ∧ (acc ++ rowX (l.drop i) = rowX l) ∧ zN = 20 ∧ zenv = [(4, iV i), (3, .own 0 2 0 acc.length), (0, zBe l)] ∧ zAs = [.row 2 (acc.map Plate.enc)]) (l.length) ⟨[none], [], _, _, _, (by (simp only [Weak, go_sem, List.map_append, List.map_set, *] <;> (try simp (disch := omega) only [zAE]) <;> (try simp) <;> (try omega))), 0, [], (by simp), (by simp), (by simp), rfl, rfl, rfl⟩ ?_; rintro _ _ _ _ ⟨i, acc, rfl, hi, hP, rfl, rfl, rfl⟩
 have hlen := congrArg List.length hP
 simp only [rowX, List.length_append, List.length_map, List.length_drop] at hlen
 repeat' (first | (show zAC ..; first | (refine Qr rfl ?_; try intro K' hK; try simp only [go_sem, *])) | (show Hold ..; first | refine Qh rfl ?_ | (refine zAD rfl ⟨_, rfl, fun hb => ?_, fun hb => ?_⟩ <;> (have hc := hb; try simp only [go_sem] at hc)) | refine zAI rfl ?_) | ((with_reducible refine And.intro ?_ ?_); focus omega) | (refine zAB hK ?_; clear hK K'; simp only [go_sem, *]) | (simp only [zAH, zAA, go_sem, *]))
 ·have hi2 : i < l.length := by assumption
  refine ⟨_, (by omega), [some 2], [], _, _, _, (by (simp only [Weak, go_sem, List.map_append, List.map_set, *] <;> (try simp (disch := omega) only [zAE]) <;> (try simp) <;> (try omega))), i + 1, acc ++ [⟨l.getD i default, 0⟩], rfl, (by omega), (by rw [← hP, zAS hi2]; simp [rowX]), rfl, rfl, rfl⟩
 ·rw [zAX (by omega)] at hP
  have hP2 : acc = rowX l := by simpa [rowX] using hP
  subst hP2
  refine ⟨[_], [], [0], ⟨rfl, trivial⟩, ?_⟩
  simp only [go_sem, *]
  simp [List.take_of_length_le]
theorem zJF (a b c : List Plate) : Spec Tryz.prog 80 [zAM a, zAM b, zAM c] [] (zAO [a, b, c]) [] := by
 refine zAF Tryz.func80 rfl (fun E hE => ?_); simp only [go_sem, Tryz.ntmps80]
 repeat' (first | (show zAC ..; first | (refine Qr rfl ?_; try intro K' hK; try simp only [go_sem, *])) | (show Hold ..; first | refine Qh rfl ?_ | (refine zAD rfl ⟨_, rfl, fun hb => ?_, fun hb => ?_⟩ <;> (have hc := hb; try simp only [go_sem] at hc)) | refine zAI rfl ?_) | ((with_reducible refine And.intro ?_ ?_); focus omega) | (refine zAB hK ?_; clear hK K'; simp only [go_sem, *]) | (simp only [zAH, zAA, go_sem, *]))
 refine ⟨[.agg [.own 1 1 0 3]], [], [1], ⟨by simp only [zAY, go_sem], trivial⟩, ?_⟩
 simp only [go_sem, *]
theorem zLv (s n : Int) : Spec Tryz.prog 79 [iV s, iV n] [] (atX s n).enc [] := by
 refine zAF Tryz.func79 rfl (fun E hE => ?_); simp only [go_sem, Tryz.ntmps79]
 repeat' (first | (show zAC ..; first | (refine Qr rfl ?_; try intro K' hK; try simp only [go_sem, *])) | (show Hold ..; first | refine Qh rfl ?_ | (refine zAD rfl ⟨_, rfl, fun hb => ?_, fun hb => ?_⟩ <;> (have hc := hb; try simp only [go_sem] at hc)) | refine zAI rfl ?_) | ((with_reducible refine And.intro ?_ ?_); focus omega) | (refine zAB hK ?_; clear hK K'; simp only [go_sem, *]) | (simp only [zAH, zAA, go_sem, *]))
 refine ⟨[(atX s n).enc], [], [], ⟨(by simp only [zAY, go_sem, atX]), trivial⟩, ?_⟩; simp only [go_sem, *]
theorem zLt (s o : Int) : Spec Tryz.prog 77 [iV s, iV o] [] (Change.enc ⟨4, s, o, zeroPlate, zeroPlate⟩) [] := by
 refine zAF Tryz.func77 rfl (fun E hE => ?_); simp only [go_sem, Tryz.ntmps77]
 repeat' (first | (show zAC ..; first | (refine Qr rfl ?_; try intro K' hK; try simp only [go_sem, *])) | (show Hold ..; first | refine Qh rfl ?_ | (refine zAD rfl ⟨_, rfl, fun hb => ?_, fun hb => ?_⟩ <;> (have hc := hb; try simp only [go_sem] at hc)) | refine zAI rfl ?_) | ((with_reducible refine And.intro ?_ ?_); focus omega) | (refine zAB hK ?_; clear hK K'; simp only [go_sem, *]) | (simp only [zAH, zAA, go_sem, *]))
 refine ⟨[Change.enc ⟨4, s, o, zeroPlate, zeroPlate⟩], [], [], ⟨(by simp only [zAY, go_sem, zeroPlate]), trivial⟩, ?_⟩; simp only [go_sem, *]
theorem zN5 (s : Int) : Spec Tryz.prog 123 [iV s] [] (Change.enc ⟨1, s, 0, zeroPlate, zeroPlate⟩) [] := by
 refine zAF Tryz.func123 rfl (fun E hE => ?_); simp only [go_sem, Tryz.ntmps123]
 repeat' (first | (show zAC ..; first | (refine Qr rfl ?_; try intro K' hK; try simp only [go_sem, *])) | (show Hold ..; first | refine Qh rfl ?_ | (refine zAD rfl ⟨_, rfl, fun hb => ?_, fun hb => ?_⟩ <;> (have hc := hb; try simp only [go_sem] at hc)) | refine zAI rfl ?_) | ((with_reducible refine And.intro ?_ ?_); focus omega) | (refine zAB hK ?_; clear hK K'; simp only [go_sem, *]) | (simp only [zAH, zAA, go_sem, *]))
 refine ⟨[Change.enc ⟨1, s, 0, zeroPlate, zeroPlate⟩], [], [], ⟨(by simp only [zAY, go_sem, zeroPlate]), trivial⟩, ?_⟩; simp only [go_sem, *]
theorem zN2 (s : Int) : Spec Tryz.prog 124 [iV s] [] (Change.enc ⟨2, s, 0, zeroPlate, zeroPlate⟩) [] := by
 refine zAF Tryz.func124 rfl (fun E hE => ?_); simp only [go_sem, Tryz.ntmps124]
 repeat' (first | (show zAC ..; first | (refine Qr rfl ?_; try intro K' hK; try simp only [go_sem, *])) | (show Hold ..; first | refine Qh rfl ?_ | (refine zAD rfl ⟨_, rfl, fun hb => ?_, fun hb => ?_⟩ <;> (have hc := hb; try simp only [go_sem] at hc)) | refine zAI rfl ?_) | ((with_reducible refine And.intro ?_ ?_); focus omega) | (refine zAB hK ?_; clear hK K'; simp only [go_sem, *]) | (simp only [zAH, zAA, go_sem, *]))
 refine ⟨[Change.enc ⟨2, s, 0, zeroPlate, zeroPlate⟩], [], [], ⟨(by simp only [zAY, go_sem, zeroPlate]), trivial⟩, ?_⟩; simp only [go_sem, *]
theorem zPq (k s n : Int) : Spec Tryz.prog 82 [iV k, iV s, iV n] [] (Change.enc ⟨k, s, 0, ⟨n, 0⟩, zeroPlate⟩) [] := by
 refine zAF Tryz.func82 rfl (fun E hE => ?_); simp only [go_sem, Tryz.ntmps82]
 repeat' (first | (show zAC ..; first | (refine Qr rfl ?_; try intro K' hK; try simp only [go_sem, *])) | (show Hold ..; first | refine Qh rfl ?_ | (refine zAD rfl ⟨_, rfl, fun hb => ?_, fun hb => ?_⟩ <;> (have hc := hb; try simp only [go_sem] at hc)) | refine zAI rfl ?_) | ((with_reducible refine And.intro ?_ ?_); focus omega) | (refine zAB hK ?_; clear hK K'; simp only [go_sem, *]) | (simp only [zAH, zAA, go_sem, *]))
 refine ⟨[Change.enc ⟨k, s, 0, ⟨n, 0⟩, zeroPlate⟩], [], [], ⟨(by simp only [zAY, go_sem, zeroPlate]), trivial⟩, ?_⟩; simp only [go_sem, *]
theorem zL3 : Spec Tryz.prog 76 [] [] (zAO townX) [] := by
 have s1 := zJg [1, 2, 3, 4, 5] (by decide)
 have s2 := zJg [1, 2] (by decide)
 have s3 := zJF (rowX [1, 2, 3, 4, 5]) (rowX [1, 2]) []
 refine zAF Tryz.func76 rfl (fun E hE => ?_); simp only [go_sem, Tryz.ntmps76]
 repeat' (first | (show zAC ..; first | (refine Qr rfl ?_; try intro K' hK; try simp only [go_sem, *])) | (show Hold ..; first | refine Qh rfl ?_ | (refine zAD rfl ⟨_, rfl, fun hb => ?_, fun hb => ?_⟩ <;> (have hc := hb; try simp only [go_sem] at hc)) | refine zAI rfl ?_) | ((with_reducible refine And.intro ?_ ?_); focus omega) | (refine zAB hK ?_; clear hK K'; simp only [go_sem, *]) | (simp only [zAH, zAA, go_sem, *]))
 (refine zBG (s1) (by simp only [go_sem, *]; done) rfl (by simp only [go_sem]; done) (by simp) (by simp) ?_; simp only [go_sem, zA9, *])
 repeat' (first | (show zAC ..; first | (refine Qr rfl ?_; try intro K' hK; try simp only [go_sem, *])) | (show Hold ..; first | refine Qh rfl ?_ | (refine zAD rfl ⟨_, rfl, fun hb => ?_, fun hb => ?_⟩ <;> (have hc := hb; try simp only [go_sem] at hc)) | refine zAI rfl ?_) | ((with_reducible refine And.intro ?_ ?_); focus omega) | (refine zAB hK ?_; clear hK K'; simp only [go_sem, *]) | (simp only [zAH, zAA, go_sem, *]))
 (refine zBG (s2) (by simp only [go_sem, *]; done) rfl (by simp only [go_sem]; done) (by simp) (by simp) ?_; simp only [go_sem, zA9, *])
 repeat' (first | (show zAC ..; first | (refine Qr rfl ?_; try intro K' hK; try simp only [go_sem, *])) | (show Hold ..; first | refine Qh rfl ?_ | (refine zAD rfl ⟨_, rfl, fun hb => ?_, fun hb => ?_⟩ <;> (have hc := hb; try simp only [go_sem] at hc)) | refine zAI rfl ?_) | ((with_reducible refine And.intro ?_ ?_); focus omega) | (refine zAB hK ?_; clear hK K'; simp only [go_sem, *]) | (simp only [zAH, zAA, go_sem, *]))
 (refine zBG (s3) (by simp only [go_sem, *]; done) rfl (by simp only [go_sem]; done) (by simp) (by simp) ?_; simp only [go_sem, zA9, *])
 repeat' (first | (show zAC ..; first | (refine Qr rfl ?_; try intro K' hK; try simp only [go_sem, *])) | (show Hold ..; first | refine Qh rfl ?_ | (refine zAD rfl ⟨_, rfl, fun hb => ?_, fun hb => ?_⟩ <;> (have hc := hb; try simp only [go_sem] at hc)) | refine zAI rfl ?_) | ((with_reducible refine And.intro ?_ ?_); focus omega) | (refine zAB hK ?_; clear hK K'; simp only [go_sem, *]) | (simp only [zAH, zAA, go_sem, *]))
 refine ⟨[zAO townX], [], [], ⟨(by simp only [zAY, go_sem, townX]), trivial⟩, ?_⟩; simp only [go_sem, *]
theorem zN3 : Spec Tryz.prog 78 [.list []] [] taleX.enc [] := by
 refine zAF Tryz.func78 rfl (fun E hE => ?_); simp only [go_sem, Tryz.ntmps78]
 repeat' (first | (show zAC ..; first | (refine Qr rfl ?_; try intro K' hK; try simp only [go_sem, *])) | (show Hold ..; first | refine Qh rfl ?_ | (refine zAD rfl ⟨_, rfl, fun hb => ?_, fun hb => ?_⟩ <;> (have hc := hb; try simp only [go_sem] at hc)) | refine zAI rfl ?_) | (show zAN ..; first | ((first | refine zAK (zL3) ?_ ?_ | refine zAK (zN5 0) ?_ ?_ | refine zAK (zN2 0) ?_ ?_ | refine zAK (zLt 1 0) ?_ ?_); (focus (simp only [go_sem, *]; done)); simp only [go_sem, *])) | ((with_reducible refine And.intro ?_ ?_); focus omega) | (refine zAB hK ?_; clear hK K'; simp only [go_sem, *]) | (simp only [zAH, zAA, go_sem, *]))
 refine ⟨[.agg [.list (townX.map zAM), .own 3 1 0 2, .list []]], [], [3], ⟨by simp only [zAY, go_sem], trivial⟩, ?_⟩
 simp only [go_sem, *]
 exact ⟨rfl, rfl, rfl⟩
end Go.Abs

namespace Go.Abs
open Go Go.Proofs
attribute [local irreducible] zAC Hold zAN
theorem zGG (a b : List House) (h1 : a.length ≤ 4294967296) : Spec Tryz.prog 140 [.list (a.map House.enc), .list (b.map House.enc)] [] (bV (decide (a = b))) [] := by
 refine zAF Tryz.func140 rfl (fun E hE => ?_); simp only [go_sem, Tryz.ntmps140]
 repeat' (first | (show zAC ..; first | (refine Qr rfl ?_; try intro K' hK; try simp only [go_sem, *])) | (show Hold ..; first | refine Qh rfl ?_ | refine zAG rfl Tryz.mixed (by kernel_rfl) ?_ | (refine zAD rfl ⟨_, rfl, fun hb => ?_, fun hb => ?_⟩ <;> (have hc := hb; try simp only [go_sem] at hc)) | refine zAI rfl ?_) | (refine Qb ?_ ?_; focus kernel_rfl) | ((with_reducible refine And.intro ?_ ?_); focus omega) | (refine zAB hK ?_; clear hK K'; simp only [go_sem, *]) | (simp only [zAH, zAA, go_sem, *]))
 ·(refine ⟨[_], [], [], ⟨rfl, trivial⟩, ?_⟩; simp only [go_sem, *])
  simp [zEA (a := a) (b := b) (by assumption)]
 ·have hlb : a.length = b.length := by assumption
  refine zAQ rfl (fun zn zN zenv zAs => ∃ (i : Nat), zn = (b.length) - i ∧ i ≤ (b.length) ∧ (a.take i = b.take i) ∧ zN = 26 ∧ zenv = [(13, iV i), (12, iV b.length), (0, .list (a.map House.enc)), (1, .list (b.map House.enc))] ∧ zAs = []) (b.length) ⟨[], [], _, _, _, (by (simp only [Weak, go_sem, List.map_append, List.map_set, *] <;> (try simp (disch := omega) only [zAE]) <;> (try simp) <;> (try omega))), 0, (by simp), (by simp), (by simp), rfl, rfl, rfl⟩ ?_; rintro _ _ _ _ ⟨i, rfl, hi, hP, rfl, rfl, rfl⟩
  repeat' (first | (show zAC ..; first | (refine Qr rfl ?_; try intro K' hK; try simp only [go_sem, *])) | (show Hold ..; first | refine Qh rfl ?_ | refine zAG rfl Tryz.mixed (by kernel_rfl) ?_ | (refine zAD rfl ⟨_, rfl, fun hb => ?_, fun hb => ?_⟩ <;> (have hc := hb; try simp only [go_sem] at hc)) | refine zAI rfl ?_) | (refine Qb ?_ ?_; focus kernel_rfl) | ((with_reducible refine And.intro ?_ ?_); focus omega) | (refine zAB hK ?_; clear hK K'; simp only [go_sem, *]) | (simp only [zAH, zAA, go_sem, *]))
  ·(refine ⟨[_], [], [], ⟨rfl, trivial⟩, ?_⟩; simp only [go_sem, *])
   simp [zHM (a := a) (b := b) (i := i) (by assumption)]
  ·refine ⟨_, (by omega), [], [], _, _, _, (by (simp only [Weak, go_sem, List.map_append, List.map_set, *] <;> (try simp (disch := omega) only [zAE]) <;> (try simp) <;> (try omega))), i + 1, rfl, (by omega), (by exact zCw (by omega) (by omega) hP (by assumption)), rfl, rfl, rfl⟩
  ·(refine ⟨[_], [], [], ⟨rfl, trivial⟩, ?_⟩; simp only [go_sem, *])
   simp [zEM (by omega) hlb hP]
theorem zMS (m c : Nat) : maxI (m : Int) (c : Int) = ((max m c : Nat) : Int) := by unfold maxI; split <;> omega
theorem zJx {α : Type} [Inhabited α] {l : List α} {f : Nat → α → Nat} {i m : Nat} (hi : i < l.length) : (l.drop i).foldl f m = (l.drop (i + 1)).foldl f (f m (l.getD i default)) := by
 rw [zAS hi, List.foldl_cons]
theorem zIk {α : Type} [Inhabited α] {l : List α} {f : α → Bool} {i : Nat} (hi : i < l.length) : (l.drop i).countP f = (if f (l.getD i default) = true then 1 else 0) + (l.drop (i + 1)).countP f := by
 rw [zAS hi, List.countP_cons]; omega
theorem zGe (l : List Truth) (h : House) (x : Truth) : zCR l h x ≤ l.length := List.countP_le_length
theorem zGS (l : List Truth) (h : House) : zBL l h ≤ l.length := by
 unfold zBL
 have key : ∀ (r : List Truth) (m : Nat), m ≤ l.length → r.foldl (fun m x => max m (zCR l h x)) m ≤ l.length := fun r => by
  induction r with
  | nil => intro m hm; exact hm
  | cons x r ih =>
   intro m hm
   have h1 := zGe l h x
   have h2 : max m (zCR l h x) ≤ l.length := by omega
   exact ih _ h2
 exact key l 0 (by omega)
theorem zMk (p : Plan) (l : List Truth) (h : House) (v : Valid p) (hh : h ∈ zAJ p) (hl : l.length ≤ 1000) (hnl : ∀ t, t ∈ l → (t.now h).length ≤ 1000) :
  Spec Tryz.prog 101 [.list (l.map (Truth.enc p)), h.enc] [] (iV (zBL l h)) [] := by
 have hw := v.wf
 have hwf := hw _ hh
 have hG0 : (l.drop 0).foldl (fun m x => max m (zCR l h x)) 0 = zBL l h := rfl
 have hGl := zGS l h
 generalize zBL l h = G at *
 refine zAF Tryz.func101 rfl (fun E hE => ?_); simp only [go_sem, Tryz.ntmps101]
 repeat' (first | (show zAC ..; first | (refine Qr rfl ?_; try intro K' hK; try simp only [go_sem, *])) | (show Hold ..; first | refine Qh rfl ?_ | refine zAG rfl Tryz.mixed (by kernel_rfl) ?_ | (refine zAD rfl ⟨_, rfl, fun hb => ?_, fun hb => ?_⟩ <;> (have hc := hb; try simp only [go_sem] at hc)) | refine zAI rfl ?_) | (refine Qb ?_ ?_; focus kernel_rfl) | ((with_reducible refine And.intro ?_ ?_); focus omega) | (refine zAB hK ?_; clear hK K'; simp only [go_sem, *]) | (simp only [zAH, zAA, go_sem, *]))
 refine zAQ rfl (fun zn zN zenv zAs => ∃ (i : Nat) (m : Nat), zn = (l.length) - i ∧ i ≤ (l.length) ∧ ((l.drop i).foldl (fun m x => max m (zCR l h x)) m = G) ∧ zN = 40 ∧ zenv = [(13, iV i), (12, iV l.length), (11, .list (l.map (Truth.enc p))), (0, .list (l.map (Truth.enc p))), (5, iV m), (3, .ptr 0 0)] ∧ zAs = [.box [iV h.street, iV h.plate.number, iV h.plate.letter]]) (l.length) ⟨[some 0], [], _, _, _, (by (simp only [Weak, go_sem, List.map_append, List.map_set, *] <;> (try simp (disch := omega) only [zAE]) <;> (try simp) <;> (try omega))), 0, 0, (by simp), (by simp), (by exact hG0), rfl, rfl, rfl⟩ ?_; rintro _ _ _ _ ⟨i, m, rfl, hi, hP, rfl, rfl, rfl⟩
 by_cases hi2 : i < l.length
 ·rw [zJx hi2] at hP
  have hxl := hnl _ (zAT hi2)
  repeat' (first | (show zAC ..; first | (refine Qr rfl ?_; try intro K' hK; try simp only [go_sem, *])) | (show Hold ..; first | refine Qh rfl ?_ | refine zAG rfl Tryz.mixed (by kernel_rfl) ?_ | (refine zAD rfl ⟨_, rfl, fun hb => ?_, fun hb => ?_⟩ <;> (have hc := hb; try simp only [go_sem] at hc)) | refine zAI rfl ?_) | (refine Qb ?_ ?_; focus kernel_rfl) | ((with_reducible refine And.intro ?_ ?_); focus omega) | (refine zAB hK ?_; clear hK K'; simp only [go_sem, *]) | (simp only [zAH, zAA, go_sem, *]))
  generalize hx : l.getD i default = x at *
  refine zAQ rfl (fun zn zN zenv zAs => ∃ (j : Nat) (n : Nat), zn = (l.length) - j ∧ j ≤ (l.length) ∧ (n + (l.drop j).countP (fun y => decide (x.now h = y.now h)) = zCR l h x) ∧ zN = 40 ∧ zenv = [(19, iV j), (18, iV l.length), (17, .list (l.map (Truth.enc p))), (8, iV n), (7, .ptr 1 0), (13, iV i), (12, iV l.length), (11, .list (l.map (Truth.enc p))), (0, .list (l.map (Truth.enc p))), (5, iV m), (3, .ptr 0 0)] ∧ zAs = [.box [iV h.street, iV h.plate.number, iV h.plate.letter], .box [.list (x.ways.map iV), .list (x.fin.map zAM), .fmap (zAv p) (zAZ p x.now)]]) (l.length) ⟨[some 0, some 1], [], _, _, _, (by (simp only [Weak, go_sem, List.map_append, List.map_set, *] <;> (try simp (disch := omega) only [zAE]) <;> (try simp) <;> (try omega))), 0, 0, (by simp), (by simp), (by simp [zCR]), rfl, rfl, rfl⟩ ?_; rintro _ _ _ _ ⟨j, n, rfl, hj, hQ, rfl, rfl, rfl⟩
  by_cases hj2 : j < l.length
  ·rw [zIk hj2] at hQ
   have hyl := hnl _ (zAT hj2)
   have hsl := zGe l h x
   generalize hy : l.getD j default = y at *
   have sc := zGG (x.now h) (y.now h) (by omega)
   by_cases q : x.now h = y.now h
   ·have q' : decide (x.now h = y.now h) = true := by simpa using q
    rw [q'] at sc hQ
    clear q q'
    repeat' (first | (show zAC ..; first | (refine Qr rfl ?_; try intro K' hK; try simp only [go_sem, *])) | (show Hold ..; first | refine Qh rfl ?_ | refine zAG rfl Tryz.mixed (by kernel_rfl) ?_ | (refine zAD rfl ⟨_, rfl, fun hb => ?_, fun hb => ?_⟩ <;> (have hc := hb; try simp only [go_sem] at hc)) | refine zAI rfl ?_) | (refine Qb ?_ ?_; focus kernel_rfl) | ((with_reducible refine And.intro ?_ ?_); focus omega) | (refine zAB hK ?_; clear hK K'; simp only [go_sem, *]) | (simp only [zAH, zAA, go_sem, *]))
    refine zBM (h := h) (hs := zAJ p) (F := MapV x.now) hw hwf ?_
    rw [if_pos hh, MapV]
    repeat' (first | (show zAC ..; first | (refine Qr rfl ?_; try intro K' hK; try simp only [go_sem, *])) | (show Hold ..; first | refine Qh rfl ?_ | refine zAG rfl Tryz.mixed (by kernel_rfl) ?_ | (refine zAD rfl ⟨_, rfl, fun hb => ?_, fun hb => ?_⟩ <;> (have hc := hb; try simp only [go_sem] at hc)) | refine zAI rfl ?_) | (refine Qb ?_ ?_; focus kernel_rfl) | ((with_reducible refine And.intro ?_ ?_); focus omega) | (refine zAB hK ?_; clear hK K'; simp only [go_sem, *]) | (simp only [zAH, zAA, go_sem, *]))
    refine zBM (h := h) (hs := zAJ p) (F := MapV y.now) hw hwf ?_
    rw [if_pos hh, MapV]
    repeat' (first | (show zAC ..; first | (refine Qr rfl ?_; try intro K' hK; try simp only [go_sem, *])) | (show Hold ..; first | refine Qh rfl ?_ | refine zAG rfl Tryz.mixed (by kernel_rfl) ?_ | (refine zAD rfl ⟨_, rfl, fun hb => ?_, fun hb => ?_⟩ <;> (have hc := hb; try simp only [go_sem] at hc)) | refine zAI rfl ?_) | (refine Qb ?_ ?_; focus kernel_rfl) | (show zAN ..; first | (refine zAK (sc) ?_ ?_; (focus (simp only [go_sem, *]; done)); simp only [go_sem, *])) | ((with_reducible refine And.intro ?_ ?_); focus omega) | (refine zAB hK ?_; clear hK K'; simp only [go_sem, *]) | (simp only [zAH, zAA, go_sem, *]))
    all_goals first | contradiction | skip
    refine ⟨_, (by omega), [some 0, some 1], [], _, _, _, (by (simp only [Weak, go_sem, List.map_append, List.map_set, *] <;> (try simp (disch := omega) only [zAE]) <;> (try simp) <;> (try omega))), j + 1, n + 1, rfl, (by omega), (by rw [← hQ]; simp; omega), rfl, rfl, rfl⟩
   ·have q' : decide (x.now h = y.now h) = false := by simpa using q
    rw [q'] at sc hQ
    clear q q'
    repeat' (first | (show zAC ..; first | (refine Qr rfl ?_; try intro K' hK; try simp only [go_sem, *])) | (show Hold ..; first | refine Qh rfl ?_ | refine zAG rfl Tryz.mixed (by kernel_rfl) ?_ | (refine zAD rfl ⟨_, rfl, fun hb => ?_, fun hb => ?_⟩ <;> (have hc := hb; try simp only [go_sem] at hc)) | refine zAI rfl ?_) | (refine Qb ?_ ?_; focus kernel_rfl) | ((with_reducible refine And.intro ?_ ?_); focus omega) | (refine zAB hK ?_; clear hK K'; simp only [go_sem, *]) | (simp only [zAH, zAA, go_sem, *]))
    refine zBM (h := h) (hs := zAJ p) (F := MapV x.now) hw hwf ?_
    rw [if_pos hh, MapV]
    repeat' (first | (show zAC ..; first | (refine Qr rfl ?_; try intro K' hK; try simp only [go_sem, *])) | (show Hold ..; first | refine Qh rfl ?_ | refine zAG rfl Tryz.mixed (by kernel_rfl) ?_ | (refine zAD rfl ⟨_, rfl, fun hb => ?_, fun hb => ?_⟩ <;> (have hc := hb; try simp only [go_sem] at hc)) | refine zAI rfl ?_) | (refine Qb ?_ ?_; focus kernel_rfl) | ((with_reducible refine And.intro ?_ ?_); focus omega) | (refine zAB hK ?_; clear hK K'; simp only [go_sem, *]) | (simp only [zAH, zAA, go_sem, *]))
    refine zBM (h := h) (hs := zAJ p) (F := MapV y.now) hw hwf ?_
    rw [if_pos hh, MapV]
    repeat' (first | (show zAC ..; first | (refine Qr rfl ?_; try intro K' hK; try simp only [go_sem, *])) | (show Hold ..; first | refine Qh rfl ?_ | refine zAG rfl Tryz.mixed (by kernel_rfl) ?_ | (refine zAD rfl ⟨_, rfl, fun hb => ?_, fun hb => ?_⟩ <;> (have hc := hb; try simp only [go_sem] at hc)) | refine zAI rfl ?_) | (refine Qb ?_ ?_; focus kernel_rfl) | (show zAN ..; first | (refine zAK (sc) ?_ ?_; (focus (simp only [go_sem, *]; done)); simp only [go_sem, *])) | ((with_reducible refine And.intro ?_ ?_); focus omega) | (refine zAB hK ?_; clear hK K'; simp only [go_sem, *]) | (simp only [zAH, zAA, go_sem, *]))
    all_goals first | contradiction | skip
    refine ⟨_, (by omega), [some 0, some 1], [], _, _, _, (by (simp only [Weak, go_sem, List.map_append, List.map_set, *] <;> (try simp (disch := omega) only [zAE]) <;> (try simp) <;> (try omega))), j + 1, n, rfl, (by omega), (by rw [← hQ]; simp), rfl, rfl, rfl⟩
  ·rw [zAX (by omega)] at hQ
   have hn : n = zCR l h x := by simpa using hQ
   subst hn
   have hmx := zMS m (zCR l h x)
   repeat' (first | (show zAC ..; first | (refine Qr rfl ?_; try intro K' hK; try simp only [go_sem, *])) | (show Hold ..; first | refine Qh rfl ?_ | refine zAG rfl Tryz.mixed (by kernel_rfl) ?_ | (refine zAD rfl ⟨_, rfl, fun hb => ?_, fun hb => ?_⟩ <;> (have hc := hb; try simp only [go_sem] at hc)) | refine zAI rfl ?_) | (refine Qb ?_ ?_; focus kernel_rfl) | ((with_reducible refine And.intro ?_ ?_); focus omega) | (refine zAB hK ?_; clear hK K'; simp only [go_sem, *]) | (simp only [zAH, zAA, go_sem, *]))
   refine ⟨_, (by omega), [some 0], [], _, _, _, (by (simp only [Weak, go_sem, List.map_append, List.map_set, *] <;> (try simp (disch := omega) only [zAE]) <;> (try simp) <;> (try omega))), i + 1, max m (zCR l h x), rfl, (by omega), (by exact hP), rfl, rfl, rfl⟩
 ·rw [zAX (by omega)] at hP
  have hP2 : m = G := hP
  subst hP2
  repeat' (first | (show zAC ..; first | (refine Qr rfl ?_; try intro K' hK; try simp only [go_sem, *])) | (show Hold ..; first | refine Qh rfl ?_ | refine zAG rfl Tryz.mixed (by kernel_rfl) ?_ | (refine zAD rfl ⟨_, rfl, fun hb => ?_, fun hb => ?_⟩ <;> (have hc := hb; try simp only [go_sem] at hc)) | refine zAI rfl ?_) | (refine Qb ?_ ?_; focus kernel_rfl) | ((with_reducible refine And.intro ?_ ?_); focus omega) | (refine zAB hK ?_; clear hK K'; simp only [go_sem, *]) | (simp only [zAH, zAA, go_sem, *]))
  (refine ⟨[_], [], [], ⟨rfl, trivial⟩, ?_⟩; simp only [go_sem, *])
theorem zNv (a b : Int) : Spec Tryz.prog 103 [iV a, iV b] [] (iV (IntKind.i64.wrap (a - b))) [] := by
 refine zAF Tryz.func103 rfl (fun E hE => ?_); simp only [go_sem, Tryz.ntmps103]
 repeat' (first | (show zAC ..; first | (refine Qr rfl ?_; try intro K' hK; try simp only [go_sem, *])) | (show Hold ..; first | refine Qh rfl ?_ | (refine zAD rfl ⟨_, rfl, fun hb => ?_, fun hb => ?_⟩ <;> (have hc := hb; try simp only [go_sem] at hc)) | refine zAI rfl ?_) | ((with_reducible refine And.intro ?_ ?_); focus omega) | (refine zAB hK ?_; clear hK K'; simp only [go_sem, *]) | (simp only [zAH, zAA, go_sem, *]))
 (refine ⟨[_], [], [], ⟨rfl, trivial⟩, ?_⟩; simp only [go_sem, *])
theorem zHz {g : List Nat} {i : Nat} {a : Int} (hi : i < g.length) : zCb g (g.drop i) i a = zCb g (g.drop (i + 1)) (i + 1) (if a < 0 ∨ g.getD i default < g.getD a.toNat 0 then i else a) := by
 rw [zAS hi, zCb]
theorem zD9 (g : List Nat) : ∀ (r : List Nat) (i : Nat) (a : Int), r.length + i = g.length → -1 ≤ a ∧ a < g.length → -1 ≤ zCb g r i a ∧ zCb g r i a < g.length
 | [], _, a, _, h => h
 | x :: r, i, a, hl, h => by
  rw [zCb]
  refine zD9 g r (i + 1) _ (by simp at hl; omega) ?_
  split
  ·simp at hl; omega
  ·exact h
theorem zG6 {g : List Nat} (h : 0 < g.length) : -1 ≤ zCP g ∧ zCP g < g.length := zD9 g g 0 (-1) (by omega) (by omega)
theorem zMq (g : List Nat) (hl : g.length ≤ 1000) (hs : ∀ x, x ∈ g → x ≤ 1000) :
  Spec Tryz.prog 102 [.list (g.map fun n => iV (n : Nat)), fnV 103] [] (iV (zCP g)) [] := by
 have hca : zAw Tryz.prog 103 = true := by kernel_rfl
 have hG0 : zCb g (g.drop 0) 0 (-1) = zCP g := rfl
 generalize zCP g = G at *
 refine zAF Tryz.func102 rfl (fun E hE => ?_); simp only [go_sem, Tryz.ntmps102]
 repeat' (first | (show zAC ..; first | (refine Qr rfl ?_; try intro K' hK; try simp only [go_sem, *]) | (refine Qi rfl rfl rfl rfl (fun hb K' hK => ?_) (fun hb => ?_) <;> (have hc := hb; try simp only [go_sem] at hc; simp only [go_sem, *]))) | (show Hold ..; first | refine Qh rfl ?_ | (refine zAD rfl ⟨_, rfl, fun hb => ?_, fun hb => ?_⟩ <;> (have hc := hb; try simp only [go_sem] at hc)) | refine zAI rfl ?_) | ((with_reducible refine And.intro ?_ ?_); focus omega) | (refine zAB hK ?_; clear hK K'; simp only [go_sem, *]) | (simp only [zAH, zAA, go_sem, *]))
 refine zAQ rfl (fun zn zN zenv zAs => ∃ (i : Nat) (a : Int), zn = (g.length) - i ∧ i ≤ (g.length) ∧ (zCb g (g.drop i) i a = G ∧ -1 ≤ a ∧ a < i) ∧ zN = 30 ∧ zenv = [(10, iV i), (9, iV g.length), (8, .list (g.map fun n => iV (n : Nat))), (0, .list (g.map fun n => iV (n : Nat))), (1, fnV 103), (5, iV a)] ∧ zAs = []) (g.length) ⟨[], [], _, _, _, (by (simp only [Weak, go_sem, List.map_append, List.map_set, *] <;> (try simp (disch := omega) only [zAE]) <;> (try simp) <;> (try omega))), 0, -1, (by simp), (by simp), (by exact ⟨hG0, by omega, by omega⟩), rfl, rfl, rfl⟩ ?_; rintro _ _ _ _ ⟨i, a, rfl, hi, hP, rfl, rfl, rfl⟩
 obtain ⟨hP, ha1, ha2⟩ := hP
 by_cases hi2 : i < g.length
 ·rw [zHz hi2] at hP
  have hx := hs _ (zAT hi2)
  by_cases ha : a < 0
  ·have hd : decide (a < 0) = true := by simpa using ha
   rw [if_pos (.inl ha)] at hP
   repeat' (first | (show zAC ..; first | (refine Qr rfl ?_; try intro K' hK; try simp only [go_sem, *]) | (refine Qi rfl rfl rfl rfl (fun hb K' hK => ?_) (fun hb => ?_) <;> (have hc := hb; try simp only [go_sem] at hc; simp only [go_sem, *]))) | (show Hold ..; first | refine Qh rfl ?_ | (refine zAD rfl ⟨_, rfl, fun hb => ?_, fun hb => ?_⟩ <;> (have hc := hb; try simp only [go_sem] at hc)) | refine zAI rfl ?_) | ((with_reducible refine And.intro ?_ ?_); focus omega) | (refine zAB hK ?_; clear hK K'; simp only [go_sem, *]) | (simp only [zAH, zAA, go_sem, *]))
   all_goals first | contradiction | skip
   refine ⟨_, (by omega), [], [], _, _, _, (by (simp only [Weak, go_sem, List.map_append, List.map_set, *] <;> (try simp (disch := omega) only [zAE]) <;> (try simp) <;> (try omega))), i + 1, (i : Int), rfl, (by omega), (by exact ⟨hP, by omega, by omega⟩), rfl, rfl, rfl⟩
  ·obtain ⟨k, rfl⟩ : ∃ k : Nat, a = (k : Int) := ⟨a.toNat, by omega⟩
   have hk : k < g.length := by omega
   have hy := hs _ (zAT hk)
   have hd : decide ((k : Int) < 0) = false := by simp
   have hkl : ((k : Int) < (g.length : Int)) := by omega
   have e0 : g.getD (k : Int).toNat 0 = g.getD k default := rfl
   rw [e0] at hP
   clear e0
   have sa := zNv ((g.getD i default : Nat) : Int) ((g.getD k default : Nat) : Int)
   rw [wrap_i64 (by omega) (by omega)] at sa
   by_cases hc0 : g.getD i default < g.getD k default
   ·rw [if_pos (.inr hc0)] at hP
    have hd2 : ((g.getD i default : Nat) : Int) - ((g.getD k default : Nat) : Int) < 0 := by omega
    repeat' (first | (show zAC ..; first | (refine Qr rfl ?_; try intro K' hK; try simp only [go_sem, *]) | (refine Qi rfl rfl rfl rfl (fun hb K' hK => ?_) (fun hb => ?_) <;> (have hc := hb; try simp only [go_sem] at hc; simp only [go_sem, *]))) | (show Hold ..; first | refine Qh rfl ?_ | (refine zAD rfl ⟨_, rfl, fun hb => ?_, fun hb => ?_⟩ <;> (have hc := hb; try simp only [go_sem] at hc)) | refine zAI rfl ?_) | (show zAN ..; first | (refine zAK (sa) ?_ ?_; (focus (simp only [go_sem, *]; done)); simp only [go_sem, *])) | ((with_reducible refine And.intro ?_ ?_); focus omega) | (refine zAB hK ?_; clear hK K'; simp only [go_sem, *]) | (simp only [zAH, zAA, go_sem, *]))
    all_goals first | contradiction | skip
    all_goals first | omega | skip
    refine ⟨_, (by omega), [], [], _, _, _, (by (simp only [Weak, go_sem, List.map_append, List.map_set, *] <;> (try simp (disch := omega) only [zAE]) <;> (try simp) <;> (try omega))), i + 1, (i : Int), rfl, (by omega), (by exact ⟨hP, by omega, by omega⟩), rfl, rfl, rfl⟩
   ·rw [if_neg (by omega)] at hP
    have hd2 : ¬ ((g.getD i default : Nat) : Int) - ((g.getD k default : Nat) : Int) < 0 := by omega
    repeat' (first | (show zAC ..; first | (refine Qr rfl ?_; try intro K' hK; try simp only [go_sem, *]) | (refine Qi rfl rfl rfl rfl (fun hb K' hK => ?_) (fun hb => ?_) <;> (have hc := hb; try simp only [go_sem] at hc; simp only [go_sem, *]))) | (show Hold ..; first | refine Qh rfl ?_ | (refine zAD rfl ⟨_, rfl, fun hb => ?_, fun hb => ?_⟩ <;> (have hc := hb; try simp only [go_sem] at hc)) | refine zAI rfl ?_) | (show zAN ..; first | (refine zAK (sa) ?_ ?_; (focus (simp only [go_sem, *]; done)); simp only [go_sem, *])) | ((with_reducible refine And.intro ?_ ?_); focus omega) | (refine zAB hK ?_; clear hK K'; simp only [go_sem, *]) | (simp only [zAH, zAA, go_sem, *]))
    all_goals first | contradiction | skip
    all_goals first | omega | skip
    refine ⟨_, (by omega), [], [], _, _, _, (by (simp only [Weak, go_sem, List.map_append, List.map_set, *] <;> (try simp (disch := omega) only [zAE]) <;> (try simp) <;> (try omega))), i + 1, (k : Int), rfl, (by omega), (by exact ⟨hP, by omega, by omega⟩), rfl, rfl, rfl⟩
 ·rw [zAX (by omega)] at hP
  have hP2 : a = G := hP
  subst hP2
  repeat' (first | (show zAC ..; first | (refine Qr rfl ?_; try intro K' hK; try simp only [go_sem, *]) | (refine Qi rfl rfl rfl rfl (fun hb K' hK => ?_) (fun hb => ?_) <;> (have hc := hb; try simp only [go_sem] at hc; simp only [go_sem, *]))) | (show Hold ..; first | refine Qh rfl ?_ | (refine zAD rfl ⟨_, rfl, fun hb => ?_, fun hb => ?_⟩ <;> (have hc := hb; try simp only [go_sem] at hc)) | refine zAI rfl ?_) | ((with_reducible refine And.intro ?_ ?_); focus omega) | (refine zAB hK ?_; clear hK K'; simp only [go_sem, *]) | (simp only [zAH, zAA, go_sem, *]))
  (refine ⟨[_], [], [], ⟨rfl, trivial⟩, ?_⟩; simp only [go_sem, *])
end Go.Abs

namespace Go.Abs
open Go Go.Proofs
attribute [local irreducible] zAC Hold zAN
section
variable {P : Program} {E : Env} {Q : Exit → AS → Prop} {σ : AS} {p : List Nat} {b c : Code} {l : Nat}
def zI8 : Code → Code
 | .rangeFunc _ _ a _ => a
 | _ => .skip
def zI9 : Code → Code
 | .rangeFunc _ _ _ b => b
 | _ => .skip
def zNa : Code → Option (Operand × Array Tmp)
 | .rangeFunc g ps _ _ => some (g, ps)
 | _ => none
theorem zJd {id : Nat} {ops : List Oper} (h : c = .region id ops.toArray false) (hx : zAC P ops (fun σ' _ => Q .normal σ') ops σ []) : HoldR l P E c Q σ := by rw [h]; exact zHm hx
theorem zNm {id : Nat} (h : zLA c = some id) (hx : HoldR l P E (zOj 0 c) (zAA id Q) σ) : HoldR l P E c Q σ := by
 cases c with
 | block i c => cases h; exact zIt hx
 | _ => cases h
theorem zNs {g : Operand} {ps : Array Tmp} (h : zNa (sub p b) = some (g, ps)) {f : FuncId} {caps : List AV} (hg : σ.ev g = .fn f caps) (hc : zAw P f = true) {nx : Nat} (hnx : σ.obj nx = .unb)
  (hx : ∀ fn, ∃ nx', zAN P f (.yld nx :: caps) (σ.setO nx (.loopo ⟨fn, ps, zI8 (sub p b), zI9 (sub p b), σ.n⟩ σ.env (some none))).obj nx' (fun _ _ wr => zNE P E Q nx ((σ.setO nx (.loopo ⟨fn, ps, zI8 (sub p b), zI9 (sub p b), σ.n⟩ σ.env (some none))).writes wr))) : Hold P E (sub p b) Q σ := by
 cases hq : sub p b with
 | rangeFunc g' ps' a b' =>
  rw [hq] at h hx; cases h
  exact zJ2 hg hc hnx hx
 | _ => rw [hq] at h; cases h
theorem zNt {id : Nat} {ops : List Oper} (k : Nat) (h : sub p b = .region id ops.toArray false) {o : Oper} (hk : ops[k]? = some o) {fo : Operand} {args : Array Operand} {ts : Array TypeId} (hop : o.op = .call ⟨.value fo, args, ts⟩)
  (hx : zAC P ops (fun σ1 _ => zCM ops σ1 o
   ((match o.dst with | some d => ltN d σ1.n | none => True) ∧ zJk P (σ1.ev fo) (args.toList.map σ1.ev) σ1.obj σ1.nx (fun v _ wr => zAC P ops (fun σ' _ => Q .normal σ') (ops.drop (k + 1)) ((σ1.writes wr).putD o.dst v) []))
   ((match o.dst with | some d => ltN d σ1.n | none => True) ∧ zAC P ops (fun σ' _ => Q .normal σ') (ops.drop (k + 1)) (σ1.putD o.dst (.tup [])) [])) (ops.take k) σ []) : Hold P E (sub p b) Q σ := by
 obtain ⟨hlt, he⟩ := List.getElem?_eq_some_iff.1 hk
 have e : ops = ops.take k ++ o :: ops.drop (k + 1) := by
  rw [← he, ← List.drop_eq_getElem_cons hlt, List.take_append_drop]
 obtain ⟨pre, hpre⟩ : ∃ pre, pre = ops.take k := ⟨_, rfl⟩
 obtain ⟨post, hpost⟩ : ∃ post, post = ops.drop (k + 1) := ⟨_, rfl⟩
 rw [← hpre, ← hpost] at e hx
 rw [h]
 clear h hk he hlt hpre hpost
 subst e
 exact zJ3 hop hx
end
theorem zKy {all : List Oper} {σ : AS} {o : Oper} {j d : Nat} {want : Bool} {Y N : Prop} (hg : o.guard = some (j, want)) (hj : (all[j]?).bind (·.dst) = some d) (hv : σ.get d = .raw (.bool want)) (h : Y) : zCM all σ o Y N := by
 unfold zCM
 rw [hg]
 simp only [hj, hv]
 show gIf want want Y N
 unfold gIf
 exact ⟨fun _ => h, fun e => by cases want <;> cases e⟩
theorem zM1 {P : Program} {y : AV} {avs : List AV} {H : Nat → AObj} {nx : Nat} {K : Cont} {oid : Nat} (ids ex : List Nat) {args : List AV} {fp : List AObj} {r : AV} {out : List AObj} (sp : zNN P args fp r out)
  (hy : y = .yld oid) (hh : ids.head? = some oid) (h1 : ids.Nodup) (h2 : XpL H (ids.map some) ex args avs) (h3 : fpsF H (ids.map some) ex fp ids) (h4 : ∀ o, o ∈ ex → o ∉ ids) (h5 : ex = [] ∨ (Scal r ∧ ∀ A, A ∈ out → zKb A))
  (h6 : ∀ j, j < out.length - ids.length → H (nx + j) = .unb) (h7 : ∀ A, A ∈ out → A ≠ .unb) (hk : K (r.ren (zAq ids nx)) (ids ++ ex ++ zDB ids nx out) (zAr ids nx out)) : zJk P y avs H nx K := by
 refine ⟨oid, ids, ex, args, fp, r, out, hy, hh, ⟨sp, h1, h4, ?_, (fpsF.sound h3).1, fun k h => ?_, h5, h6, h7⟩, hk⟩
 ·rw [← zHH]; exact XpL.all2 h2
 ·rw [← zHH]; exact (fpsF.sound h3).2 k h
theorem zJQ {P : Program} {f : FuncId} {avs as' args : List AV} {H : Nat → AObj} {nx : Nat} {K : Cont} {r : AV} {fp out : List AObj} (ids gone : List Nat) (sp : Spec P f args fp r out) (ha : (avs.map fun x => (frzV H 3 x).1) = as') (hg : (avs.map fun x => (frzV H 3 x).2).flatten = gone)
  (h1 : ids.Nodup) (h2 : XpL (fun o => if o ∈ gone then .dead else H o) (ids.map some) [] args as') (h3 : fpsF (fun o => if o ∈ gone then .dead else H o) (ids.map some) [] fp ids)
  (h6 : ∀ j, j < out.length - ids.length → (if nx + j ∈ gone then AObj.dead else H (nx + j)) = .unb) (h7 : ∀ A, A ∈ out → A ≠ .unb)
  (hk : K (r.ren (zAq ids nx)) (gone ++ (ids ++ zDB ids nx out)) (zA9 gone ++ zAr ids nx out)) : zAN P f avs H nx K := by
 refine zJP ?_
 rw [ha, hg]
 exact zGp ids [] sp h1 h2 h3 (by simp) (.inl rfl) h6 h7 (by simpa using hk)
theorem zFK {H : Nat → AObj} {m : List (Option Nat)} {ex : List Nat} {x y : AV} : ∀ (xs : List AV), (∀ z, z ∈ xs → XpF H m ex z z) → (XpL H m ex (xs ++ [x]) (xs ++ [y]) ↔ XpF H m ex x y)
 | [], _ => by simp only [List.nil_append, zGm, zKc, and_true]
 | z :: r, h => by
  simp only [List.cons_append, zGm]
  rw [zFK r (fun z hz => h z (by simp [hz]))]
  exact ⟨fun h => h.2, fun h2 => ⟨h z (by simp), h2⟩⟩
@[go_sem] theorem zKX (H : Nat → AObj) (m : List (Option Nat)) (ex : List Nat) (x y : AV) (p : Plan) : XpL H m ex (List.map zAM p ++ [x]) (List.map zAM p ++ [y]) ↔ XpF H m ex x y :=
 zFK _ (fun z hz => by
  obtain ⟨l, _, rfl⟩ := List.mem_map.1 hz
  simp only [XpF])
@[go_sem] theorem zKY (H : Nat → AObj) (m : List (Option Nat)) (ex : List Nat) (x y : AV) (i : Nat) (p : Plan) : XpL H m ex (List.take i (List.map zAM p) ++ [x]) (List.take i (List.map zAM p) ++ [y]) ↔ XpF H m ex x y :=
 zFK _ (fun z hz => by
  obtain ⟨l, _, rfl⟩ := List.mem_map.1 (List.mem_of_mem_take hz)
  simp only [XpF])
theorem zLo (p : Plan) (v : Valid p) : Spec Tryz.prog 112 [zAO p] [] (zAO p) [] := by
 have hp3 := v.len
 refine zAF Tryz.func112 rfl (fun E hE => ?_); simp only [go_sem, Tryz.ntmps112]
 repeat' (first | (show zAC ..; first | (refine Qr rfl ?_; try intro K' hK; try simp only [go_sem, *])) | (show Hold ..; first | refine Qh rfl ?_ | refine zAG rfl Tryz.mixed (by kernel_rfl) ?_ | (refine zAD rfl ⟨_, rfl, fun hb => ?_, fun hb => ?_⟩ <;> (have hc := hb; try simp only [go_sem] at hc)) | refine zAI rfl ?_) | (refine Qb ?_ ?_; focus kernel_rfl) | ((with_reducible refine And.intro ?_ ?_); focus omega) | (refine zAB hK ?_; clear hK K'; simp only [go_sem, *]) | (simp only [zAH, zAA, go_sem, *]))
 refine zAQ rfl (fun zn zN zenv zAs => ∃ (i : Nat), zn = (p.length) - i ∧ i ≤ (p.length) ∧ (NoP i) ∧ zN = 23 ∧ zenv = [(10, iV i), (9, iV p.length), (8, .list (p.map zAM)), (2, .ptr 0 0), (3, .ptr 1 0)] ∧ zAs = [.box [nilV], .box [.own 2 1 0 i], .box ((p.take i).map zAM)]) (p.length) ⟨[some 1, some 2, none], [], _, _, _, (by (simp only [Weak, go_sem, List.map_append, List.map_set, *] <;> (try simp (disch := omega) only [zAE]) <;> (try simp) <;> (try omega))), 0, (by simp), (by simp), (by trivial), rfl, rfl, rfl⟩ ?_; rintro _ _ _ _ ⟨i, rfl, hi, hP, rfl, rfl, rfl⟩
 by_cases hi2 : i < p.length
 ·have hr := (v.rows _ (zAT hi2)).len
  have sc := zGF (p.getD i default) (by omega)
  have e := zAa (l := p) (i := i) hi2
  repeat' (first | (show zAC ..; first | (refine Qr rfl ?_; try intro K' hK; try simp only [go_sem, *])) | (show Hold ..; first | refine Qh rfl ?_ | refine zAG rfl Tryz.mixed (by kernel_rfl) ?_ | (refine zAD rfl ⟨_, rfl, fun hb => ?_, fun hb => ?_⟩ <;> (have hc := hb; try simp only [go_sem] at hc)) | refine zAI rfl ?_) | (refine Qb ?_ ?_; focus kernel_rfl) | (show zAN ..; first | (refine zAl (sc) ?_ ?_ ?_ ?_; (focus (simp only [go_sem, *]; done)); (focus (first | (simp; done) | (simp [go_sem]; done))); (focus (first | (simp; done) | (simp [go_sem]; done))); simp only [go_sem, *])) | ((with_reducible refine And.intro ?_ ?_); focus omega) | (refine zAB hK ?_; clear hK K'; simp only [go_sem, *]) | (simp only [zAH, zAA, go_sem, *]))
  refine ⟨_, (by omega), [some 0, some 1, some 5], [3], _, _, _, (by (simp only [Weak, go_sem, List.map_append, List.map_set, *] <;> (try simp (disch := omega) only [zAE]) <;> (try simp) <;> (try omega))), i + 1, rfl, (by omega), (by trivial), rfl, rfl, rfl⟩
 ·have e : p.take i = p := List.take_of_length_le (by omega)
  repeat' (first | (show zAC ..; first | (refine Qr rfl ?_; try intro K' hK; try simp only [go_sem, *])) | (show Hold ..; first | refine Qh rfl ?_ | refine zAG rfl Tryz.mixed (by kernel_rfl) ?_ | (refine zAD rfl ⟨_, rfl, fun hb => ?_, fun hb => ?_⟩ <;> (have hc := hb; try simp only [go_sem] at hc)) | refine zAI rfl ?_) | (refine Qb ?_ ?_; focus kernel_rfl) | ((with_reducible refine And.intro ?_ ?_); focus omega) | (refine zAB hK ?_; clear hK K'; simp only [go_sem, *]) | (simp only [zAH, zAA, go_sem, *]))
  refine ⟨[.agg [.own 2 1 0 i]], [], [2], ⟨by simp only [zAY, go_sem], trivial⟩, ?_⟩
  simp only [go_sem, *]
  simp
  omega
end Go.Abs

namespace Go.Abs
open Go Go.Proofs
attribute [local irreducible] zAC Hold zAN
noncomputable def zKd : Code := sub [0, 1, 0, 1, 1, 1, 1] (zKf Tryz.f100)
noncomputable def zC3 (fn : FuncId) : LoopK := ⟨fn, #[19], zI8 zKd, zI9 zKd, 26⟩
theorem zMA (fn : FuncId) (p : Plan) (t : Truth) (acc : List Truth) (h : acc.length ≤ 1000) :
  zNN Tryz.prog [t.enc p] [.loopo (zC3 fn) [(7, .ptr 1 0)] (some none), .box [.own 2 3 0 acc.length], .row 3 (acc.map (Truth.enc p))] (bV true)
   [.loopo (zC3 fn) [(7, .ptr 1 0)] (some none), .box [.own 3 3 0 (acc ++ [t]).length], .dead, .row 3 ((acc ++ [t]).map (Truth.enc p))] := by
 refine zM3 (L := zC3 fn) (env := [(7, .ptr 1 0)]) (j := none) rfl rfl (fun E l hE => ?_)
 refine zJd rfl ?_
 simp only [zC3, zEz, go_sem]
 repeat' (first | (show zAC ..; first | (refine Qr (ops := _ :: _) rfl ?_; try intro K' hK; try simp only [go_sem, *]) | (refine Qi rfl rfl rfl rfl (fun hb K' hK => ?_) (fun hb => ?_) <;> (have hc := hb; try simp only [go_sem] at hc; simp only [go_sem, *]))) | (refine Qb ?_ ?_; focus kernel_rfl) | ((with_reducible refine And.intro ?_ ?_); focus omega) | (refine zAB hK ?_; clear hK K'; simp only [go_sem, *]) | (simp only [zAH, zAA, go_sem, *]))
 refine zJB ?_
 refine ⟨by simp only [go_sem], ?_⟩
 refine zNm (id := 1) rfl ?_
 refine zJd rfl ?_
 simp only [go_sem]
 repeat' (first | (show zAC ..; first | (refine Qr (ops := _ :: _) rfl ?_; try intro K' hK; try simp only [go_sem, *]) | (refine Qi rfl rfl rfl rfl (fun hb K' hK => ?_) (fun hb => ?_) <;> (have hc := hb; try simp only [go_sem] at hc; simp only [go_sem, *]))) | (refine Qb ?_ ?_; focus kernel_rfl) | ((with_reducible refine And.intro ?_ ?_); focus omega) | (refine zAB hK ?_; clear hK K'; simp only [go_sem, *]) | (simp only [zAH, zAA, go_sem, *]))
 refine zJB ?_
 refine ⟨by simp only [go_sem], rfl, [some 0, some 1, some 2, some 5], [], ?_⟩
 simp only [go_sem, *]
 simp [lkV, XpF]
end Go.Abs

namespace Go.Abs
open Go Go.Proofs
attribute [local irreducible] zAC Hold zAN
abbrev zMP : AV := .fn 162 [.ptr 0 0, .ptr 1 0, .ptr 2 0]
noncomputable def zKx (fn : FuncId) (s : Story) (acc : List Truth) : List AObj :=
 [.box [.ptr 3 0], .box [.yld 4], .box [zMP], zBR s, .loopo (zC3 fn) [(7, .ptr 5 0)] (some none), .box [.own 6 3 0 acc.length], .row 3 (acc.map (Truth.enc s.first))]
noncomputable def zIr (fn : FuncId) (s : Story) (acc : List Truth) : List AObj :=
 [.box [.ptr 3 0], .box [.yld 4], .box [zMP], zBR s, .loopo (zC3 fn) [(7, .ptr 5 0)] (some none), .box [.own 7 3 0 acc.length], .dead, .row 3 (acc.map (Truth.enc s.first))]
attribute [go_sem] zKx zIr
theorem zMl (fn : FuncId) (s : Story) (o0 : Told s) (t : Truth) (o : TOk s 0 t) (acc : List Truth) (ha : acc.length ≤ 1000) :
  Spec Tryz.prog 162 [t.enc s.first, .ptr 0 0, .ptr 1 0, .ptr 2 0] (zKx fn s acc) (bV true) (zIr fn s (acc ++ zC2 s 0 t)) := by
 have hst := o.steps
 have hst2 : ((t.ways.length : Int) == (s.steps.length : Int)) = true := by simp; omega
 have hfl := o0.facts
 have hsrc : ∀ f, f ∈ s.facts → f.src ∈ zAJ s.first := fun f hf => (o0.fact f hf).1
 have hnl : ∀ h, h ∈ zAJ s.first → (t.now h).length ≤ 1000 := fun h hh => by have := o.small o0.steps hh; omega
 have sf := fun b hb => zNz s t o0.first (by omega) hsrc hnl b hb
 have sy := zMA fn s.first t acc ha
 rw [zEZ]
 by_cases q : zGu s.facts t = true
 ·rw [if_pos q]
  have sf1 := sf true q
  clear sf q
  refine zAF Tryz.func162 rfl (fun E hE => ?_); simp only [go_sem, Tryz.ntmps162]
  repeat' (first | (show zAC ..; first | (refine Qr rfl ?_; try intro K' hK; try simp only [go_sem, *]) | (refine Qi rfl rfl rfl rfl (fun hb K' hK => ?_) (fun hb => ?_) <;> (have hc := hb; try simp only [go_sem] at hc; simp only [go_sem, *]))) | (show Hold ..; first | refine Qh rfl ?_ | refine zAG rfl Tryz.mixed (by kernel_rfl) ?_) | (refine Qb ?_ ?_; focus kernel_rfl) | ((with_reducible refine And.intro ?_ ?_); focus omega) | (refine zAB hK ?_; clear hK K'; simp only [go_sem, *]) | (simp only [zAH, zAA, go_sem, *]))
  refine zAD rfl ⟨true, by simp only [go_sem, *], fun _ => ?_, fun e => by cases e⟩
  refine zKJ rfl ?_
  refine zNt 7 rfl rfl rfl ?_
  simp only [List.take_succ_cons, List.take_zero, List.drop_succ_cons, List.drop_zero]
  repeat' (first | (show zAC ..; first | (refine Qr (ops := _ :: _) rfl ?_; try intro K' hK; try simp only [go_sem, *]) | (refine Qi rfl rfl rfl rfl (fun hb K' hK => ?_) (fun hb => ?_) <;> (have hc := hb; try simp only [go_sem] at hc; simp only [go_sem, *]))) | (refine Qb ?_ ?_; focus kernel_rfl) | ((with_reducible refine And.intro ?_ ?_); focus omega) | (refine zAB hK ?_; clear hK K'; simp only [go_sem, *]) | (simp only [zAH, zAA, go_sem, *]))
  refine zAR [3] [] sf1 (by simp) (by simp only [go_sem]) (by simp only [go_sem]) (by simp) (.inl rfl) (by simp [go_sem]) (by simp [go_sem]) ?_
  simp only [go_sem]
  repeat' (first | (show zAC ..; first | (refine Qr (ops := _ :: _) rfl ?_; try intro K' hK; try simp only [go_sem, *]) | (refine Qi rfl rfl rfl rfl (fun hb K' hK => ?_) (fun hb => ?_) <;> (have hc := hb; try simp only [go_sem] at hc; simp only [go_sem, *]))) | (refine Qb ?_ ?_; focus kernel_rfl) | ((with_reducible refine And.intro ?_ ?_); focus omega) | (refine zAB hK ?_; clear hK K'; simp only [go_sem, *]) | (simp only [zAH, zAA, go_sem, *]))
  refine zJB ?_
  refine zKy rfl rfl (by simp only [go_sem]) ?_
  refine ⟨by simp only [go_sem], ?_⟩
  simp only [go_sem]
  refine zM1 [4, 5, 6] [] sy rfl rfl (by simp) (by simp only [go_sem]) ?_ (by simp) (.inl rfl) (by simp [go_sem]) (by simp [go_sem]) ?_
  ·simp only [go_sem]
  simp only [go_sem]
  repeat' (first | (show zAC ..; first | (refine Qr rfl ?_; try intro K' hK; try simp only [go_sem, *]) | (refine Qi rfl rfl rfl rfl (fun hb K' hK => ?_) (fun hb => ?_) <;> (have hc := hb; try simp only [go_sem] at hc; simp only [go_sem, *]))) | (show Hold ..; first | refine Qh rfl ?_ | refine zAG rfl Tryz.mixed (by kernel_rfl) ?_ | (refine zAD rfl ⟨_, rfl, fun hb => ?_, fun hb => ?_⟩ <;> (have hc := hb; try simp only [go_sem] at hc)) | refine zAI rfl ?_) | (refine Qb ?_ ?_; focus kernel_rfl) | ((with_reducible refine And.intro ?_ ?_); focus omega) | (refine zAB hK ?_; clear hK K'; simp only [go_sem, *]) | (simp only [zAH, zAA, go_sem, *]))
  refine ⟨[_], [some 0, some 1, some 2, some 3, some 4, some 5, some 6, some 8], [], ⟨rfl, trivial⟩, ?_⟩
  simp only [go_sem, *]
 ·rw [if_neg q, List.append_nil]
  rw [Bool.not_eq_true] at q
  have sf1 := sf false q
  clear sf q
  refine zAF Tryz.func162 rfl (fun E hE => ?_); simp only [go_sem, Tryz.ntmps162]
  repeat' (first | (show zAC ..; first | (refine Qr rfl ?_; try intro K' hK; try simp only [go_sem, *]) | (refine Qi rfl rfl rfl rfl (fun hb K' hK => ?_) (fun hb => ?_) <;> (have hc := hb; try simp only [go_sem] at hc; simp only [go_sem, *]))) | (show Hold ..; first | refine Qh rfl ?_ | refine zAG rfl Tryz.mixed (by kernel_rfl) ?_ | (refine zAD rfl ⟨_, rfl, fun hb => ?_, fun hb => ?_⟩ <;> (have hc := hb; try simp only [go_sem] at hc)) | refine zAI rfl ?_) | (refine Qb ?_ ?_; focus kernel_rfl) | ((with_reducible refine And.intro ?_ ?_); focus omega) | (refine zAB hK ?_; clear hK K'; simp only [go_sem, *]) | (simp only [zAH, zAA, go_sem, *]))
  all_goals first | contradiction | skip
  refine zAR [3] [] sf1 (by simp) (by simp only [go_sem]) (by simp only [go_sem]) (by simp) (.inl rfl) (by simp [go_sem]) (by simp [go_sem]) ?_
  simp only [go_sem]
  repeat' (first | (show zAC ..; first | (refine Qr rfl ?_; try intro K' hK; try simp only [go_sem, *]) | (refine Qi rfl rfl rfl rfl (fun hb K' hK => ?_) (fun hb => ?_) <;> (have hc := hb; try simp only [go_sem] at hc; simp only [go_sem, *]))) | (show Hold ..; first | refine Qh rfl ?_ | refine zAG rfl Tryz.mixed (by kernel_rfl) ?_ | (refine zAD rfl ⟨_, rfl, fun hb => ?_, fun hb => ?_⟩ <;> (have hc := hb; try simp only [go_sem] at hc)) | refine zAI rfl ?_) | (refine Qb ?_ ?_; focus kernel_rfl) | ((with_reducible refine And.intro ?_ ?_); focus omega) | (refine zAB hK ?_; clear hK K'; simp only [go_sem, *]) | (simp only [zAH, zAA, go_sem, *]))
  refine ⟨[_], [some 0, some 1, some 2, some 3, some 4, some 5, some 6, some 6], [], ⟨rfl, trivial⟩, ?_⟩
  simp only [go_sem, *]
theorem zLr (fn : FuncId) (s : Story) (o0 : Told s) : ∀ (n : Nat) (t : Truth), TOk s n t → ∀ acc : List Truth, acc.length + (zC2 s n t).length ≤ 1000 →
  Spec Tryz.prog 162 [t.enc s.first, .ptr 0 0, .ptr 1 0, .ptr 2 0] (zKx fn s acc) (bV true) (zIr fn s (acc ++ zC2 s n t))
 | 0, t, o, acc, ha => zMl fn s o0 t o acc (by omega)
 | n + 1, t, o, acc, ha => by
  have IH := zLr fn s o0 n
  have hst := o.steps
  have hst2 : ((t.ways.length : Int) == (s.steps.length : Int)) = false := by simp; omega
  have hkl : t.ways.length < s.steps.length := by omega
  have hw3 := (o0.ways _ (zAT hkl)).2.1
  have h3 := o0.steps
  have v0 := o0.first
  rw [zJz] at ha ⊢
  obtain ⟨w, hw⟩ : ∃ w, w = s.steps.getD t.ways.length default := ⟨_, rfl⟩
  have hwa : zCe s t.ways.length = w := hw.symm
  rw [← hw] at hw3
  obtain ⟨tot, htot⟩ : ∃ tot, tot = acc ++ zBJ s n t 0 := ⟨_, rfl⟩
  rw [← htot]
  have hac0 : acc ++ zBJ s n t 0 = tot := htot.symm
  have htl : tot.length ≤ 1000 := by rw [htot, List.length_append]; omega
  clear htot ha
  have hcl := zIH t.ways (by omega)
  have hca : zAw Tryz.prog 162 = true := by kernel_rfl
  refine zAF Tryz.func162 rfl (fun E hE => ?_); simp only [go_sem, Tryz.ntmps162]
  repeat' (first | (show zAC ..; first | (refine Qr rfl ?_; try intro K' hK; try simp only [go_sem, *]) | (refine Qi rfl rfl rfl rfl (fun hb K' hK => ?_) (fun hb => ?_) <;> (have hc := hb; try simp only [go_sem] at hc; simp only [go_sem, *]))) | (show Hold ..; first | refine Qh rfl ?_ | refine zAG rfl Tryz.mixed (by kernel_rfl) ?_ | (refine zAD rfl ⟨_, rfl, fun hb => ?_, fun hb => ?_⟩ <;> (have hc := hb; try simp only [go_sem] at hc)) | refine zAI rfl ?_) | (refine Qb ?_ ?_; focus kernel_rfl) | ((with_reducible refine And.intro ?_ ?_); focus omega) | (refine zAB hK ?_; clear hK K'; simp only [go_sem, *]) | (simp only [zAH, zAA, go_sem, *]))
  all_goals first | contradiction | skip
  rw [← hw]
  refine zAQ rfl (fun zn zN zenv zAs => ∃ (i : Nat) (ac : List Truth), zn = (w.length) - i ∧ i ≤ (w.length) ∧ (ac ++ zBJ s n t i = tot) ∧ zN = 79 ∧ zenv = [(41, iV i), (40, iV w.length), (39, .list (w.map Change.enc)), (4, .ptr 7 0), (1, .ptr 0 0), (2, .ptr 1 0), (3, .ptr 2 0)] ∧ zAs = [.box [.ptr 3 0], .box [.yld 4], .box [zMP], zBR s, .loopo (zC3 fn) [(7, .ptr 5 0)] (some none), .box [.own 8 3 0 ac.length], .dead, .box [.list (t.ways.map iV), .list (t.fin.map zAM), .fmap (zAv s.first) (zAZ s.first t.now)], .row 3 (ac.map (Truth.enc s.first))]) (w.length) ⟨[some 0, some 1, some 2, some 3, some 4, some 5, some 6, some 7, some 6], [], _, _, _, (by (simp only [Weak, go_sem, List.map_append, List.map_set, *] <;> (try simp (disch := omega) only [zAE]) <;> (try simp) <;> (try omega))), 0, acc, (by simp), (by simp), (by exact hac0), rfl, rfl, rfl⟩ ?_; rintro _ _ _ _ ⟨i, ac, rfl, hi, hP, rfl, rfl, rfl⟩
  clear hac0 hw
  by_cases hi2 : i < w.length
  ·obtain ⟨s1, s2⟩ := zCv t.fin (w.getD i default) o.val
   by_cases hcan : can t.fin (w.getD i default) = 0
   ·rw [zHd (by rw [hwa]; exact hi2) (by rw [hwa]; exact hcan), hwa] at hP
    have se := s2 hcan
    have f := Fit.of_can hcan
    have o2 := o.next hcan i
    have hal := congrArg List.length hP
    simp only [List.length_append] at hal
    have sg := IH (zEl t (w.getD i default) i) o2 ac (by omega)
    clear s1 s2 IH
    have sa := zHI t.fin (w.getD i default) o.val f
    rw [o.town] at sa
    have sth := zN4 (zAJ s.first) (zAJ t.fin) t.now (mv t.fin (w.getD i default)) v0.nodup v0.wf o.val.wf o.mem (fun h hh => o.flat_nodup f hh) (fun h hh => by have := o.small2 h3 f hh; omega)
     (by have := v0.count; omega) (fun h hh => by have := o.small h3 hh; omega) (fun x _ => by have := zLJ f x; omega)
    repeat' (first | (show zAC ..; first | (refine Qr rfl ?_; try intro K' hK; try simp only [go_sem, *]) | (refine Qi rfl rfl rfl rfl (fun hb K' hK => ?_) (fun hb => ?_) <;> (have hc := hb; try simp only [go_sem] at hc; simp only [go_sem, *]))) | (show Hold ..; first | refine Qh rfl ?_ | (refine zAD rfl ⟨_, rfl, fun hb => ?_, fun hb => ?_⟩ <;> (have hc := hb; try simp only [go_sem] at hc)) | refine zAI rfl ?_) | (refine Qb ?_ ?_; focus kernel_rfl) | (show zAN ..; first | (refine zAl (se) ?_ ?_ ?_ ?_; (focus (simp only [go_sem, *]; done)); (focus (first | (simp; done) | (simp [go_sem]; done))); (focus (first | (simp; done) | (simp [go_sem]; done))); simp only [go_sem, *])) | ((with_reducible refine And.intro ?_ ?_); focus omega) | (refine zAB hK ?_; clear hK K'; simp only [go_sem, *]) | (simp only [zAH, zAA, go_sem, *]))
    all_goals first | contradiction | skip
    generalize w.getD i default = c at *
    refine zD6 (N := 79) (env := [(9, .fmap (zAv t.fin) (zAZ t.fin (mv t.fin c))), (7, iV i), (41, iV i), (40, iV w.length), (39, .list (w.map Change.enc)), (4, .ptr 7 0), (1, .ptr 0 0), (2, .ptr 1 0), (3, .ptr 2 0)])
     (As := [.box [.ptr 3 0], .box [.yld 4], .box [zMP], zBR s, .loopo (zC3 fn) [(7, .ptr 5 0)] (some none), .box [.own 8 3 0 ac.length], .dead, .box [.list (t.ways.map iV), .list (t.fin.map zAM), .fmap (zAv s.first) (zAZ s.first t.now)], .row 3 (ac.map (Truth.enc s.first))])
     [some 0, some 1, some 2, some 3, some 4, some 5, some 6, some 7, some 8] [10] (by (simp only [Weak, go_sem, List.map_append, List.map_set, *] <;> (try simp (disch := omega) only [zAE]) <;> (try simp) <;> (try omega))) ?_
    simp only [go_sem]
    repeat' (first | (show zAC ..; first | (refine Qr rfl ?_; try intro K' hK; try simp only [go_sem, *]) | (refine Qi rfl rfl rfl rfl (fun hb K' hK => ?_) (fun hb => ?_) <;> (have hc := hb; try simp only [go_sem] at hc; simp only [go_sem, *]))) | (show Hold ..; first | refine Qh rfl ?_ | refine zAG rfl Tryz.mixed (by kernel_rfl) ?_ | (refine zAD rfl ⟨_, rfl, fun hb => ?_, fun hb => ?_⟩ <;> (have hc := hb; try simp only [go_sem] at hc)) | refine zAI rfl ?_) | (refine Qb ?_ ?_; focus kernel_rfl) | (show zAN ..; first | ((first | refine zAK (sa) ?_ ?_ | refine zAK (sth) ?_ ?_); (focus (simp only [go_sem, *]; done)); simp only [go_sem, *]) | (refine zAl (hcl) ?_ ?_ ?_ ?_; (focus (simp only [go_sem, *]; done)); (focus (first | (simp; done) | (simp [go_sem]; done))); (focus (first | (simp; done) | (simp [go_sem]; done))); simp only [go_sem, *])) | ((with_reducible refine And.intro ?_ ?_); focus omega) | (refine zAB hK ?_; clear hK K'; simp only [go_sem, *]) | (simp only [zAH, zAA, go_sem, *]))
    refine zJQ [0, 1, 2, 3, 4, 5, 8] [11] sg rfl (by simp only [go_sem, Nat.le_refl]) (by simp) ?_ ?_ (by simp [go_sem]) (by simp [go_sem]) ?_
    ·simp only [go_sem, *, Nat.le_refl]
     exact ⟨by simp [zEl, List.take_of_length_le], rfl, rfl⟩
    ·simp only [go_sem, *]
    simp only [go_sem, zA9, *]
    repeat' (first | (show zAC ..; first | (refine Qr rfl ?_; try intro K' hK; try simp only [go_sem, *]) | (refine Qi rfl rfl rfl rfl (fun hb K' hK => ?_) (fun hb => ?_) <;> (have hc := hb; try simp only [go_sem] at hc; simp only [go_sem, *]))) | (show Hold ..; first | refine Qh rfl ?_ | refine zAG rfl Tryz.mixed (by kernel_rfl) ?_ | (refine zAD rfl ⟨_, rfl, fun hb => ?_, fun hb => ?_⟩ <;> (have hc := hb; try simp only [go_sem] at hc)) | refine zAI rfl ?_) | (refine Qb ?_ ?_; focus kernel_rfl) | ((with_reducible refine And.intro ?_ ?_); focus omega) | (refine zAB hK ?_; clear hK K'; simp only [go_sem, *]) | (simp only [zAH, zAA, go_sem, *]))
    all_goals first | contradiction | skip
    refine ⟨_, (by omega), [some 0, some 1, some 2, some 3, some 4, some 5, some 6, some 7, some 12], [], _, _, _, (by (simp only [Weak, go_sem, List.map_append, List.map_set, *] <;> (try simp (disch := omega) only [zAE]) <;> (try simp) <;> (try omega))), i + 1, ac ++ zC2 s n (zEl t c i), rfl, (by omega), (by rw [← hP]; simp), rfl, rfl, rfl⟩
   ·rw [zIq (by rw [hwa]; exact hi2) (by rw [hwa]; exact hcan)] at hP
    have se := s1 hcan
    have hcb : (can t.fin (w.getD i default) == 0) = false := by simpa using hcan
    clear s1 s2 IH
    repeat' (first | (show zAC ..; first | (refine Qr rfl ?_; try intro K' hK; try simp only [go_sem, *]) | (refine Qi rfl rfl rfl rfl (fun hb K' hK => ?_) (fun hb => ?_) <;> (have hc := hb; try simp only [go_sem] at hc; simp only [go_sem, *]))) | (show Hold ..; first | refine Qh rfl ?_ | (refine zAD rfl ⟨_, rfl, fun hb => ?_, fun hb => ?_⟩ <;> (have hc := hb; try simp only [go_sem] at hc)) | refine zAI rfl ?_) | (refine Qb ?_ ?_; focus kernel_rfl) | (show zAN ..; first | (refine zAK (se) ?_ ?_; (focus (simp only [go_sem, *]; done)); simp only [go_sem, *])) | ((with_reducible refine And.intro ?_ ?_); focus omega) | (refine zAB hK ?_; clear hK K'; simp only [go_sem, *]) | (simp only [zAH, zAA, go_sem, *]))
    all_goals first | contradiction | skip
    refine ⟨_, (by omega), [some 0, some 1, some 2, some 3, some 4, some 5, some 6, some 7, some 8], [], _, _, _, (by (simp only [Weak, go_sem, List.map_append, List.map_set, *] <;> (try simp (disch := omega) only [zAE]) <;> (try simp) <;> (try omega))), i + 1, ac, rfl, (by omega), (by exact hP), rfl, rfl, rfl⟩
  ·rw [zHc (by rw [hwa]; omega), List.append_nil] at hP
   subst hP
   repeat' (first | (show zAC ..; first | (refine Qr rfl ?_; try intro K' hK; try simp only [go_sem, *]) | (refine Qi rfl rfl rfl rfl (fun hb K' hK => ?_) (fun hb => ?_) <;> (have hc := hb; try simp only [go_sem] at hc; simp only [go_sem, *]))) | (show Hold ..; first | refine Qh rfl ?_ | refine zAG rfl Tryz.mixed (by kernel_rfl) ?_ | (refine zAD rfl ⟨_, rfl, fun hb => ?_, fun hb => ?_⟩ <;> (have hc := hb; try simp only [go_sem] at hc)) | refine zAI rfl ?_) | (refine Qb ?_ ?_; focus kernel_rfl) | ((with_reducible refine And.intro ?_ ?_); focus omega) | (refine zAB hK ?_; clear hK K'; simp only [go_sem, *]) | (simp only [zAH, zAA, go_sem, *]))
   refine ⟨[_], [some 0, some 1, some 2, some 3, some 4, some 5, some 6, some 8], [], ⟨rfl, trivial⟩, ?_⟩
   simp only [go_sem, *]
end Go.Abs

namespace Go.Abs
open Go Go.Proofs
attribute [local irreducible] zAC Hold zAN
theorem zKS (fn : FuncId) (s : Story) (o : Told s) :
  Spec Tryz.prog 161 [.yld 2, .ptr 0 0] [.box [.ptr 1 0], zBR s, .loopo (zC3 fn) [(7, .ptr 3 0)] (some none), .box [.own 4 3 0 0], .row 3 []] (.tup [])
   [.box [.ptr 1 0], zBR s, .loopo (zC3 fn) [(7, .ptr 3 0)] (some none), .box [.own 5 3 0 (zAn s).length], .dead, .row 3 ((zAn s).map (Truth.enc s.first))] := by
 have v := o.first
 have hl := zCl o.steps (fun w hw => (o.ways w hw).2.1)
 have sg := zLr fn s o s.steps.length (zEu s) (zHY v) [] (by unfold zAn at hl; simp only [List.length_nil]; omega)
 rw [List.nil_append] at sg
 have hca : zAw Tryz.prog 162 = true := by kernel_rfl
 have sc := zLo s.first v
 have ss := zDI s.first v
 have ht : zC2 s s.steps.length (zEu s) = zAn s := rfl
 rw [ht] at sg
 generalize zAn s = l at *
 clear ht
 refine zAF Tryz.func161 rfl (fun E hE => ?_); simp only [go_sem, Tryz.ntmps161]
 repeat' (first | (show zAC ..; first | (refine Qr rfl ?_; try intro K' hK; try simp only [go_sem, *])) | (show Hold ..; first | refine Qh rfl ?_ | refine zAG rfl Tryz.mixed (by kernel_rfl) ?_ | (refine zAD rfl ⟨_, rfl, fun hb => ?_, fun hb => ?_⟩ <;> (have hc := hb; try simp only [go_sem] at hc)) | refine zAI rfl ?_) | (refine Qb ?_ ?_; focus kernel_rfl) | (show zAN ..; first | (refine zAK (sc) ?_ ?_; (focus (simp only [go_sem, *]; done)); simp only [go_sem, *]) | (refine zAl (ss) ?_ ?_ ?_ ?_; (focus (simp only [go_sem, *]; done)); (focus (first | (simp; done) | (simp [go_sem]; done))); (focus (first | (simp; done) | (simp [go_sem]; done))); simp only [go_sem, *])) | ((with_reducible refine And.intro ?_ ?_); focus omega) | (refine zAB hK ?_; clear hK K'; simp only [go_sem, *]) | (simp only [zAH, zAA, go_sem, *]))
 refine zJQ [0, 5, 6, 1, 2, 3, 4] [7] sg rfl (by simp only [go_sem]) (by simp) ?_ ?_ (by simp [go_sem]) (by simp [go_sem]) ?_
 ·simp only [go_sem, *]
  exact ⟨rfl, rfl, rfl⟩
 ·simp only [go_sem, *]
 simp only [go_sem, zA9, *]
 repeat' (first | (show zAC ..; first | (refine Qr rfl ?_; try intro K' hK; try simp only [go_sem, *])) | (show Hold ..; first | refine Qh rfl ?_ | refine zAG rfl Tryz.mixed (by kernel_rfl) ?_ | (refine zAD rfl ⟨_, rfl, fun hb => ?_, fun hb => ?_⟩ <;> (have hc := hb; try simp only [go_sem] at hc)) | refine zAI rfl ?_) | (refine Qb ?_ ?_; focus kernel_rfl) | ((with_reducible refine And.intro ?_ ?_); focus omega) | (refine zAB hK ?_; clear hK K'; simp only [go_sem, *]) | (simp only [zAH, zAA, go_sem, *]))
 refine ⟨[], [some 0, some 1, some 2, some 3, some 4, some 8], [], trivial, ?_⟩
 simp only [go_sem, *]
theorem zL4 (s : Story) : Spec Tryz.prog 139 [.ptr 0 0] [zBR s] (.fn 161 [.ptr 1 0]) [zBR s, .box [.ptr 0 0]] := by
 refine zAF Tryz.func139 rfl (fun E hE => ?_); simp only [go_sem, Tryz.ntmps139]
 repeat' (first | (show zAC ..; first | (refine Qr rfl ?_; try intro K' hK; try simp only [go_sem, *])) | (show Hold ..; first | refine Qh rfl ?_ | (refine zAD rfl ⟨_, rfl, fun hb => ?_, fun hb => ?_⟩ <;> (have hc := hb; try simp only [go_sem] at hc)) | refine zAI rfl ?_) | ((with_reducible refine And.intro ?_ ?_); focus omega) | (refine zAB hK ?_; clear hK K'; simp only [go_sem, *]) | (simp only [zAH, zAA, go_sem, *]))
 refine ⟨[_], [some 0, some 1], [], ⟨rfl, trivial⟩, ?_⟩
 simp only [go_sem, *]
theorem zDt (s : Story) (h : zBD s = 0) :
  Spec Tryz.prog 100 [s.enc] [] (.tup [.ptr 0 0, .list ((zAn s).map (Truth.enc s.first)), iV 0]) [zBR s] := by
 have o := zDZ h
 have hl := zCl o.steps (fun w hw => (o.ways w hw).2.1)
 have sb := zMj s (by have := o.steps; omega) (fun w hw => by have := (o.ways w hw).2.1; omega) (by have := o.facts; omega) (by have := o.first.len; omega) (.tup [.ptr 0 0, iV 0]) [zBR s] (zBD s) rfl ⟨fun _ => ⟨rfl, rfl⟩, fun e => absurd h e⟩
 have st := zL4 s
 have s1 := fun fn => zKS fn s o
 generalize zAn s = l at *
 refine zAF Tryz.func100 rfl (fun E hE => ?_); simp only [go_sem, Tryz.ntmps100]
 repeat' (first | (show zAC ..; first | (refine Qr rfl ?_; try intro K' hK; try simp only [go_sem, *])) | (show Hold ..; first | refine Qh rfl ?_ | (refine zAD rfl ⟨_, rfl, fun hb => ?_, fun hb => ?_⟩ <;> (have hc := hb; try simp only [go_sem] at hc)) | refine zAI rfl ?_) | (refine Qb ?_ ?_; focus kernel_rfl) | (show zAN ..; first | (refine zAl (sb) ?_ ?_ ?_ ?_; (focus (simp only [go_sem, *]; done)); (focus (first | (simp; done) | (simp [go_sem]; done))); (focus (first | (simp; done) | (simp [go_sem]; done))); simp only [go_sem, *])) | ((with_reducible refine And.intro ?_ ?_); focus omega) | (refine zAB hK ?_; clear hK K'; simp only [go_sem, *]) | (simp only [zAH, zAA, go_sem, *]))
 all_goals first | contradiction | skip
 refine zAR [1] [] st (by simp) (by simp only [go_sem]) (by simp only [go_sem]) (by simp) (.inl rfl) (by simp [go_sem]) (by simp [go_sem]) ?_
 simp only [go_sem]
 repeat' (first | (show zAC ..; first | (refine Qr rfl ?_; try intro K' hK; try simp only [go_sem, *])) | (show Hold ..; first | refine Qh rfl ?_ | (refine zAD rfl ⟨_, rfl, fun hb => ?_, fun hb => ?_⟩ <;> (have hc := hb; try simp only [go_sem] at hc)) | refine zAI rfl ?_) | (refine Qb ?_ ?_; focus kernel_rfl) | ((with_reducible refine And.intro ?_ ?_); focus omega) | (refine zAB hK ?_; clear hK K'; simp only [go_sem, *]) | (simp only [zAH, zAA, go_sem, *]))
 refine zD6 (N := 26) (env := [(18, .fn 161 [.ptr 1 0]), (7, .ptr 2 0), (5, .ptr 0 0)]) (As := [zBR s, .box [.ptr 0 0], .box [.own 3 3 0 0], .row 3 []]) [some 1, some 3, some 2, none] [] (by (simp only [Weak, go_sem, List.map_append, List.map_set, *] <;> (try simp (disch := omega) only [zAE]) <;> (try simp) <;> (try omega))) ?_
 refine zNs (f := 161) (caps := [.ptr 1 0]) rfl (by simp only [go_sem]) (by kernel_rfl) (nx := 4) (by simp only [go_sem]) (fun fn => ⟨5, ?_⟩)
 refine zAR [1, 0, 4, 2, 3] [] (s1 fn) (by simp) (by simp only [go_sem]) ?_ (by simp) (.inl rfl) (by simp [go_sem]) (by simp [go_sem]) ?_
 ·simp only [go_sem, *]
  rfl
 ·simp only [go_sem, *]
  refine ⟨zC3 fn, [(7, .ptr 2 0)], none, by simp only [go_sem], ?_⟩
  simp only [go_sem]
  repeat' (first | (show zAC ..; first | (refine Qr rfl ?_; try intro K' hK; try simp only [go_sem, *])) | (show Hold ..; first | refine Qh rfl ?_ | refine zAG rfl Tryz.mixed (by kernel_rfl) ?_ | (refine zAD rfl ⟨_, rfl, fun hb => ?_, fun hb => ?_⟩ <;> (have hc := hb; try simp only [go_sem] at hc)) | refine zAI rfl ?_) | (refine Qb ?_ ?_; focus kernel_rfl) | ((with_reducible refine And.intro ?_ ?_); focus omega) | (refine zAB hK ?_; clear hK K'; simp only [go_sem, *]) | (simp only [zAH, zAA, go_sem, *]))
  refine ⟨[_, _, _], [some 0], [5], ⟨rfl, rfl, rfl, trivial⟩, ?_⟩
  simp only [go_sem, *]
  simp [List.take_of_length_le]
end Go.Abs

namespace Go.Abs
open Go Go.Proofs
attribute [local irreducible] zAC Hold zAN
attribute [go_sem] Nat.le_refl
section
variable {H : Nat → AObj} {m : List (Option Nat)} {ex : List Nat} {α : Type}
@[go_sem, simp] theorem zMC (f : α → List AV) (l : List α) (i : Nat) (ys zs : List AV) : XpL H m ex (List.take i (List.map (fun t => AV.list (f t)) l) ++ [AV.list ys]) (List.take i (List.map (fun t => AV.list (f t)) l) ++ [AV.list zs]) ↔ ys = zs := by
 rw [zFK _ (fun z hz => by
  obtain ⟨t, _, rfl⟩ := List.mem_map.1 (List.mem_of_mem_take hz)
  simp only [XpF])]
 simp only [XpF]
@[go_sem, simp] theorem zMF (f : α → List AV) (l : List α) (ys zs : List AV) : XpL H m ex (List.map (fun t => AV.list (f t)) l ++ [AV.list ys]) (List.map (fun t => AV.list (f t)) l ++ [AV.list zs]) ↔ ys = zs := by
 rw [zFK _ (fun z hz => by
  obtain ⟨t, _, rfl⟩ := List.mem_map.1 hz
  simp only [XpF])]
 simp only [XpF]
end
theorem zIK (s : Story) (h : zBD s = 0) : Spec Tryz.prog 39 [s.enc] [] (.tup [.list ((zJi s).map zBe), iV 0]) [] := by
 have o := zDZ h
 have hl := zCl o.steps (fun w hw => (o.ways w hw).2.1)
 have sa := zDt s h
 unfold zJi
 generalize zAn s = l at *
 refine zAF Tryz.func39 rfl (fun E hE => ?_); simp only [go_sem, Tryz.ntmps39]
 repeat' (first | (show zAC ..; first | (refine Qr rfl ?_; try intro K' hK; try simp only [go_sem, *])) | (show Hold ..; first | refine Qh rfl ?_ | (refine zAD rfl ⟨_, rfl, fun hb => ?_, fun hb => ?_⟩ <;> (have hc := hb; try simp only [go_sem] at hc)) | refine zAI rfl ?_) | (show zAN ..; first | (refine zAl (sa) ?_ ?_ ?_ ?_; (focus (simp only [go_sem, *]; done)); (focus (first | (simp; done) | (simp [go_sem]; done))); (focus (first | (simp; done) | (simp [go_sem]; done))); simp only [go_sem, *])) | ((with_reducible refine And.intro ?_ ?_); focus omega) | (refine zAB hK ?_; clear hK K'; simp only [go_sem, *]) | (simp only [zAH, zAA, go_sem, *]))
 all_goals first | contradiction | skip
 refine zAQ rfl (fun zn zN zenv zAs => ∃ (i : Nat), zn = (l.length) - i ∧ i ≤ (l.length) ∧ (NoP i) ∧ zN = 32 ∧ zenv = [(21, iV i), (20, iV l.length), (19, .list (l.map (Truth.enc s.first))), (7, .own 0 1 0 i)] ∧ zAs = [.box ((l.take i).map fun t => zBe t.ways)]) (l.length) ⟨[none], [], _, _, _, (by (simp only [Weak, go_sem, List.map_append, List.map_set, *] <;> (try simp (disch := omega) only [zAE]) <;> (try simp) <;> (try omega))), 0, (by simp), (by simp), (by trivial), rfl, rfl, rfl⟩ ?_; rintro _ _ _ _ ⟨i, rfl, hi, hP, rfl, rfl, rfl⟩
 by_cases hi2 : i < l.length
 ·have e := zAa (l := l) (i := i) hi2
  repeat' (first | (show zAC ..; first | (refine Qr rfl ?_; try intro K' hK; try simp only [go_sem, *])) | (show Hold ..; first | refine Qh rfl ?_ | (refine zAD rfl ⟨_, rfl, fun hb => ?_, fun hb => ?_⟩ <;> (have hc := hb; try simp only [go_sem] at hc)) | refine zAI rfl ?_) | ((with_reducible refine And.intro ?_ ?_); focus omega) | (refine zAB hK ?_; clear hK K'; simp only [go_sem, *]) | (simp only [zAH, zAA, go_sem, *]))
  refine ⟨_, (by omega), [some 3], [], _, _, _, (by (simp only [Weak, go_sem, List.map_append, List.map_set, *] <;> (try simp (disch := omega) only [zAE]) <;> (try simp) <;> (try omega))), i + 1, rfl, (by omega), (by trivial), rfl, rfl, rfl⟩
 ·have e : l.take i = l := List.take_of_length_le (by omega)
  repeat' (first | (show zAC ..; first | (refine Qr rfl ?_; try intro K' hK; try simp only [go_sem, *])) | (show Hold ..; first | refine Qh rfl ?_ | (refine zAD rfl ⟨_, rfl, fun hb => ?_, fun hb => ?_⟩ <;> (have hc := hb; try simp only [go_sem] at hc)) | refine zAI rfl ?_) | ((with_reducible refine And.intro ?_ ?_); focus omega) | (refine zAB hK ?_; clear hK K'; simp only [go_sem, *]) | (simp only [zAH, zAA, go_sem, *]))
  refine ⟨[_, _], [], [0], ⟨rfl, rfl, trivial⟩, ?_⟩
  simp only [go_sem, *]
  exact ⟨by omega, fun x hx => by obtain ⟨_, _, rfl⟩ := List.mem_map.1 hx; rfl, .inl (by simp [Function.comp_def])⟩
theorem zJE (s : Story) (h : House) (he : zDb s h = 0) (hn : (zF1 s h).Nodup) (h12 : (zF1 s h).length ≤ 12) :
  Spec Tryz.prog 58 [s.enc, h.enc] [] (.tup [.list ((zJH s h).map House.enc), iV 0]) [] := by
 have hs : zBD s = 0 := by
  unfold zDb at he
  split at he <;> assumption
 have hh : h ∈ zAJ s.first := by
  unfold zDb at he
  rw [if_pos hs] at he
  by_cases q : h ∈ zAJ s.first
  ·exact q
  ·rw [if_neg q] at he; omega
 have hne : zAn s ≠ [] := by
  unfold zDb at he
  rw [if_pos hs, if_pos hh] at he
  intro e
  rw [if_pos e] at he; omega
 have o := zDZ hs
 have hl := zCl o.steps (fun w hw => (o.ways w hw).2.1)
 have ht := zIW o.first
 have sa := zDt s hs
 have sc := zB0 (zAJ s.first) h (by have := o.first.count; omega)
 have e0 : decide (h ∈ zAJ s.first) = true := by simpa using hh
 rw [e0] at sc
 have ss := zIS (zF1 s h) hn h12
 have hw := o.first.wf
 have hwf := hw _ hh
 have h3 := o.steps
 have hsm : ∀ t, t ∈ zAn s → (t.now h).length ≤ 8 := fun t hm => (ht t hm).small h3 hh
 unfold zJH
 have hwl : ([] : List House) ++ ((zAn s).drop 0).flatMap (fun t => t.now h) = zF1 s h := rfl
 generalize zF1 s h = W at *
 generalize zAn s = l at *
 have hl0 : ((l.length : Int) == 0) = false := by
  have : 0 < l.length := List.length_pos_iff.2 hne
  simp; omega
 clear he e0 ht hne
 refine zAF Tryz.func58 rfl (fun E hE => ?_); simp only [go_sem, Tryz.ntmps58]
 repeat' (first | (show zAC ..; first | (refine Qr rfl ?_; try intro K' hK; try simp only [go_sem, *])) | (show Hold ..; first | refine Qh rfl ?_ | refine zAG rfl Tryz.mixed (by kernel_rfl) ?_ | (refine zAD rfl ⟨_, rfl, fun hb => ?_, fun hb => ?_⟩ <;> (have hc := hb; try simp only [go_sem] at hc)) | refine zAI rfl ?_) | (refine Qb ?_ ?_; focus kernel_rfl) | (show zAN ..; first | (refine zAl (sa) ?_ ?_ ?_ ?_; (focus (simp only [go_sem, *]; done)); (focus (first | (simp; done) | (simp [go_sem]; done))); (focus (first | (simp; done) | (simp [go_sem]; done))); simp only [go_sem, *]) | (refine zAK (sc) ?_ ?_; (focus (simp only [go_sem, *]; done)); simp only [go_sem, *])) | ((with_reducible refine And.intro ?_ ?_); focus omega) | (refine zAB hK ?_; clear hK K'; simp only [go_sem, *]) | (simp only [zAH, zAA, go_sem, *]))
 all_goals first | contradiction | skip
 refine zAQ rfl (fun zn zN zenv zAs => ∃ (i : Nat) (acc : List House), zn = (l.length) - i ∧ i ≤ (l.length) ∧ (acc ++ (l.drop i).flatMap (fun t => t.now h) = W) ∧ zN = 46 ∧ zenv = [(33, iV i), (32, iV l.length), (31, .list (l.map (Truth.enc s.first))), (9, .own 1 3 0 acc.length), (3, .ptr 0 0)] ∧ zAs = [.box [iV h.street, iV h.plate.number, iV h.plate.letter], .row 3 (acc.map House.enc)]) (l.length) ⟨[some 1, none], [], _, _, _, (by (simp only [Weak, go_sem, List.map_append, List.map_set, *] <;> (try simp (disch := omega) only [zAE]) <;> (try simp) <;> (try omega))), 0, [], (by simp), (by simp), (by exact hwl), rfl, rfl, rfl⟩ ?_; rintro _ _ _ _ ⟨i, acc, rfl, hi, hP, rfl, rfl, rfl⟩
 clear hwl
 have hql := congrArg List.length hP
 simp only [List.length_append] at hql
 by_cases hi2 : i < l.length
 ·have hti := hsm _ (zAT hi2)
  rw [zAS hi2, List.flatMap_cons] at hP
  repeat' (first | (show zAC ..; first | (refine Qr rfl ?_; try intro K' hK; try simp only [go_sem, *])) | (show Hold ..; first | refine Qh rfl ?_ | refine zAG rfl Tryz.mixed (by kernel_rfl) ?_ | (refine zAD rfl ⟨_, rfl, fun hb => ?_, fun hb => ?_⟩ <;> (have hc := hb; try simp only [go_sem] at hc)) | refine zAI rfl ?_) | (refine Qb ?_ ?_; focus kernel_rfl) | ((with_reducible refine And.intro ?_ ?_); focus omega) | (refine zAB hK ?_; clear hK K'; simp only [go_sem, *]) | (simp only [zAH, zAA, go_sem, *]))
  refine zBM (h := h) (hs := zAJ s.first) (F := MapV (l.getD i default).now) hw hwf ?_
  rw [if_pos hh, MapV]
  repeat' (first | (show zAC ..; first | (refine Qr rfl ?_; try intro K' hK; try simp only [go_sem, *])) | (show Hold ..; first | refine Qh rfl ?_ | refine zAG rfl Tryz.mixed (by kernel_rfl) ?_ | (refine zAD rfl ⟨_, rfl, fun hb => ?_, fun hb => ?_⟩ <;> (have hc := hb; try simp only [go_sem] at hc)) | refine zAI rfl ?_) | (refine Qb ?_ ?_; focus kernel_rfl) | ((with_reducible refine And.intro ?_ ?_); focus omega) | (refine zAB hK ?_; clear hK K'; simp only [go_sem, *]) | (simp only [zAH, zAA, go_sem, *]))
  refine ⟨fun y hy => ?_, fun y hy => ?_, by omega, ?_⟩
  ·obtain ⟨z, _, rfl⟩ := List.mem_map.1 hy
   simp [go_sem]
  ·obtain ⟨z, _, rfl⟩ := List.mem_map.1 hy
   simp [go_sem]
  ·repeat' (first | (show zAC ..; first | (refine Qr rfl ?_; try intro K' hK; try simp only [go_sem, *])) | (show Hold ..; first | refine Qh rfl ?_ | refine zAG rfl Tryz.mixed (by kernel_rfl) ?_ | (refine zAD rfl ⟨_, rfl, fun hb => ?_, fun hb => ?_⟩ <;> (have hc := hb; try simp only [go_sem] at hc)) | refine zAI rfl ?_) | (refine Qb ?_ ?_; focus kernel_rfl) | ((with_reducible refine And.intro ?_ ?_); focus omega) | (refine zAB hK ?_; clear hK K'; simp only [go_sem, *]) | (simp only [zAH, zAA, go_sem, *]))
   refine ⟨_, (by omega), [some 0, some 3], [], _, _, _, (by (simp only [Weak, go_sem, List.map_append, List.map_set, *] <;> (try simp (disch := omega) only [zAE]) <;> (try simp) <;> (try omega))), i + 1, acc ++ (l.getD i default).now h, rfl, (by omega), (by rw [← hP]; simp), rfl, rfl, rfl⟩
 ·rw [zAX (by omega), List.flatMap_nil, List.append_nil] at hP
  subst hP
  clear hql
  repeat' (first | (show zAC ..; first | (refine Qr rfl ?_; try intro K' hK; try simp only [go_sem, *])) | (show Hold ..; first | refine Qh rfl ?_ | refine zAG rfl Tryz.mixed (by kernel_rfl) ?_ | (refine zAD rfl ⟨_, rfl, fun hb => ?_, fun hb => ?_⟩ <;> (have hc := hb; try simp only [go_sem] at hc)) | refine zAI rfl ?_) | (refine Qb ?_ ?_; focus kernel_rfl) | ((with_reducible refine And.intro ?_ ?_); focus omega) | (refine zAB hK ?_; clear hK K'; simp only [go_sem, *]) | (simp only [zAH, zAA, go_sem, *]))
  (refine zBG (ss) (by simp only [go_sem, *]; done) rfl (by simp only [go_sem]; done) (by simp) (by simp) ?_; simp only [go_sem, zA9, *])
  repeat' (first | (show zAC ..; first | (refine Qr rfl ?_; try intro K' hK; try simp only [go_sem, *])) | (show Hold ..; first | refine Qh rfl ?_ | refine zAG rfl Tryz.mixed (by kernel_rfl) ?_ | (refine zAD rfl ⟨_, rfl, fun hb => ?_, fun hb => ?_⟩ <;> (have hc := hb; try simp only [go_sem] at hc)) | refine zAI rfl ?_) | (refine Qb ?_ ?_; focus kernel_rfl) | ((with_reducible refine And.intro ?_ ?_); focus omega) | (refine zAB hK ?_; clear hK K'; simp only [go_sem, *]) | (simp only [zAH, zAA, go_sem, *]))
  (refine ⟨[_, _], [], [], ⟨rfl, rfl, trivial⟩, ?_⟩; simp only [go_sem, *])
  trace_state
def AskR : Option (House × Nat) → AV → Prop
 | some (h, n), R => R = .tup [h.enc, iV n, iV 0]
 | none, R => R = .tup [(⟨0, ⟨0, 0⟩⟩ : House).enc, iV 0, iV 11]
theorem zLf (s : Story) (h : zBD s = 0) (R : AV) (hR : AskR (zMG s) R) :
  Spec Tryz.prog 46 [s.enc] [] R [] := by
 have o := zDZ h
 have v := o.first
 have hct := v.count
 have h3 := o.steps
 have hl := zCl h3 (fun w hw => (o.ways w hw).2.1)
 have ht := zIW v
 have sa := zDt s h
 have hsm : ∀ t, t ∈ zAn s → ∀ x, x ∈ zAJ s.first → (t.now x).length ≤ 1000 := fun t hm x hx => by have := (ht t hm).small h3 hx; omega
 unfold zMG zCn at hR
 generalize zAn s = l at *
 clear ht
 have hgs : ∀ x, x ∈ (zAJ s.first).map (zBL l) → x ≤ 1000 := fun x hx => by
  obtain ⟨y, _, rfl⟩ := List.mem_map.1 hx
  have := zGS l y; omega
 have sl := zMq ((zAJ s.first).map (zBL l)) (by simp; omega) hgs
 refine zAF Tryz.func46 rfl (fun E hE => ?_); simp only [go_sem, Tryz.ntmps46]
 repeat' (first | (show zAC ..; first | (refine Qr rfl ?_; try intro K' hK; try simp only [go_sem, *]) | (refine Qi rfl rfl rfl rfl (fun hb K' hK => ?_) (fun hb => ?_) <;> (have hc := hb; try simp only [go_sem] at hc; simp only [go_sem, *]))) | (show Hold ..; first | refine Qh rfl ?_ | refine zAG rfl Tryz.mixed (by kernel_rfl) ?_ | (refine zAD rfl ⟨_, rfl, fun hb => ?_, fun hb => ?_⟩ <;> (have hc := hb; try simp only [go_sem] at hc)) | refine zAI rfl ?_) | (refine Qb ?_ ?_; focus kernel_rfl) | (show zAN ..; first | (refine zAl (sa) ?_ ?_ ?_ ?_; (focus (simp only [go_sem, *]; done)); (focus (first | (simp; done) | (simp [go_sem]; done))); (focus (first | (simp; done) | (simp [go_sem]; done))); simp only [go_sem, *])) | ((with_reducible refine And.intro ?_ ?_); focus omega) | (refine zAB hK ?_; clear hK K'; simp only [go_sem, *]) | (simp only [zAH, zAA, go_sem, *]))
 all_goals first | contradiction | skip
 refine zAQ rfl (fun zn zN zenv zAs => ∃ (i : Nat), zn = ((zAJ s.first).length) - i ∧ i ≤ ((zAJ s.first).length) ∧ (NoP i) ∧ zN = 67 ∧ zenv = [(26, iV i), (25, iV (zAJ s.first).length), (24, .list ((zAJ s.first).map House.enc)), (7, .own 2 1 0 i), (6, .list (l.map (Truth.enc s.first))), (5, .ptr 1 0), (2, .ptr 0 0)] ∧ zAs = [.box [iV 0, iV 0, iV 0], zBR s, .row 1 (((zAJ s.first).take i).map fun x => iV (zBL l x : Nat))]) ((zAJ s.first).length) ⟨[some 1, some 2, none], [], _, _, _, (by (simp only [Weak, go_sem, List.map_append, List.map_set, *] <;> (try simp (disch := omega) only [zAE]) <;> (try simp) <;> (try omega))), 0, (by simp), (by simp), (by trivial), rfl, rfl, rfl⟩ ?_; rintro _ _ _ _ ⟨i, rfl, hi, hP, rfl, rfl, rfl⟩
 by_cases hi2 : i < (zAJ s.first).length
 ·have e := zAa (l := zAJ s.first) (i := i) hi2
  have hm := zAT hi2
  have sg := zMk s.first l ((zAJ s.first).getD i default) v hm (by omega) (fun t ht => hsm t ht _ hm)
  repeat' (first | (show zAC ..; first | (refine Qr rfl ?_; try intro K' hK; try simp only [go_sem, *]) | (refine Qi rfl rfl rfl rfl (fun hb K' hK => ?_) (fun hb => ?_) <;> (have hc := hb; try simp only [go_sem] at hc; simp only [go_sem, *]))) | (show Hold ..; first | refine Qh rfl ?_ | refine zAG rfl Tryz.mixed (by kernel_rfl) ?_ | (refine zAD rfl ⟨_, rfl, fun hb => ?_, fun hb => ?_⟩ <;> (have hc := hb; try simp only [go_sem] at hc)) | refine zAI rfl ?_) | (refine Qb ?_ ?_; focus kernel_rfl) | (show zAN ..; first | (refine zAK (sg) ?_ ?_; (focus (simp only [go_sem, *]; done)); simp only [go_sem, *])) | ((with_reducible refine And.intro ?_ ?_); focus omega) | (refine zAB hK ?_; clear hK K'; simp only [go_sem, *]) | (simp only [zAH, zAA, go_sem, *]))
  refine ⟨_, (by omega), [some 0, some 1, some 5], [], _, _, _, (by (simp only [Weak, go_sem, List.map_append, List.map_set, *] <;> (try simp (disch := omega) only [zAE]) <;> (try simp) <;> (try omega))), i + 1, rfl, (by omega), (by trivial), rfl, rfl, rfl⟩
 ·have e : (zAJ s.first).take i = zAJ s.first := List.take_of_length_le (by omega)
  have e2 : (zAJ s.first).length ≤ i := by omega
  have hlr := zG6 (g := (zAJ s.first).map (zBL l))
  obtain ⟨a, ha⟩ : ∃ a, a = zCP ((zAJ s.first).map (zBL l)) := ⟨_, rfl⟩
  have hneg : (zAJ s.first).length = 0 → a < 0 := fun h => by
   rw [ha, List.eq_nil_of_length_eq_zero h]; show zCP [] < 0; decide
  rw [← ha] at sl hlr hR
  simp only [List.length_map] at hlr
  clear ha
  repeat' (first | (show zAC ..; first | (refine Qr rfl ?_; try intro K' hK; try simp only [go_sem, *]) | (refine Qi rfl rfl rfl rfl (fun hb K' hK => ?_) (fun hb => ?_) <;> (have hc := hb; try simp only [go_sem] at hc; simp only [go_sem, *]))) | (show Hold ..; first | refine Qh rfl ?_ | refine zAG rfl Tryz.mixed (by kernel_rfl) ?_ | (refine zAD rfl ⟨_, rfl, fun hb => ?_, fun hb => ?_⟩ <;> (have hc := hb; try simp only [go_sem] at hc)) | refine zAI rfl ?_) | (refine Qb ?_ ?_; focus kernel_rfl) | ((with_reducible refine And.intro ?_ ?_); focus omega) | (refine zAB hK ?_; clear hK K'; simp only [go_sem, *]) | (simp only [zAH, zAA, go_sem, *]))
  refine zCE [2] sl ?_ (.raw _) ?_
  ·simp only [go_sem, *]
   simp [Function.comp_def, List.take_of_length_le, e2]
  simp only [go_sem, *]
  by_cases hl0 : l.length = 0
  ·rw [if_pos (.inl hl0)] at hR
   have hl1 : ((l.length : Int) == 0) = true := by simpa using hl0
   clear hneg hlr
   have hR2 := hR
   unfold AskR at hR2
   clear hR
   subst hR2
   repeat' (first | (show zAC ..; first | (refine Qr rfl ?_; try intro K' hK; try simp only [go_sem, *]) | (refine Qi rfl rfl rfl rfl (fun hb K' hK => ?_) (fun hb => ?_) <;> (have hc := hb; try simp only [go_sem] at hc; simp only [go_sem, *]))) | (show Hold ..; first | refine Qh rfl ?_ | refine zAG rfl Tryz.mixed (by kernel_rfl) ?_ | (refine zAD rfl ⟨_, rfl, fun hb => ?_, fun hb => ?_⟩ <;> (have hc := hb; try simp only [go_sem] at hc)) | refine zAI rfl ?_) | (refine Qb ?_ ?_; focus kernel_rfl) | ((with_reducible refine And.intro ?_ ?_); focus omega) | (refine zAB hK ?_; clear hK K'; simp only [go_sem, *]) | (simp only [zAH, zAA, go_sem, *]))
   refine ⟨[.agg [iV 0, iV 0, iV 0], iV 0, iV 11], [], [], ⟨(by simp only [zAY, go_sem]), rfl, rfl, trivial⟩, ?_⟩; simp only [go_sem, *]
  have hl1 : ((l.length : Int) == 0) = false := by simpa using hl0
  by_cases ha0 : a < 0
  ·rw [if_pos (.inr (.inl ha0))] at hR
   clear hneg hlr
   have hR2 := hR
   unfold AskR at hR2
   clear hR
   subst hR2
   repeat' (first | (show zAC ..; first | (refine Qr rfl ?_; try intro K' hK; try simp only [go_sem, *]) | (refine Qi rfl rfl rfl rfl (fun hb K' hK => ?_) (fun hb => ?_) <;> (have hc := hb; try simp only [go_sem] at hc; simp only [go_sem, *]))) | (show Hold ..; first | refine Qh rfl ?_ | refine zAG rfl Tryz.mixed (by kernel_rfl) ?_ | (refine zAD rfl ⟨_, rfl, fun hb => ?_, fun hb => ?_⟩ <;> (have hc := hb; try simp only [go_sem] at hc)) | refine zAI rfl ?_) | (refine Qb ?_ ?_; focus kernel_rfl) | ((with_reducible refine And.intro ?_ ?_); focus omega) | (refine zAB hK ?_; clear hK K'; simp only [go_sem, *]) | (simp only [zAH, zAA, go_sem, *]))
   all_goals first | contradiction | omega | skip
   refine ⟨[.agg [iV 0, iV 0, iV 0], iV 0, iV 11], [], [], ⟨(by simp only [zAY, go_sem]), rfl, rfl, trivial⟩, ?_⟩; simp only [go_sem, *]
  ·obtain ⟨k, rfl⟩ : ∃ k : Nat, a = (k : Int) := ⟨a.toNat, by omega⟩
   have hk : k < (zAJ s.first).length := by
    have : 0 < (zAJ s.first).length := by
     rcases Nat.eq_zero_or_pos (zAJ s.first).length with h | h
     ·exact absurd (hneg h) ha0
     ·exact h
    have := hlr this
    omega
   have hgk : ((zAJ s.first).map (zBL l)).getD (k : Int).toNat 0 = zBL l ((zAJ s.first).getD k default) := by
    simp [List.getD, hk]
   rw [hgk] at hR
   clear hneg hlr hgk
   have hki : k < i := by omega
   by_cases hg : zBL l ((zAJ s.first).getD k default) = l.length
   ·rw [if_pos (.inr (.inr hg))] at hR
    have hgi : (((zBL l ((zAJ s.first).getD k default) : Nat) : Int) == (l.length : Int)) = true := by rw [beq_iff_eq]; omega
    clear hg
    have hR2 := hR
    unfold AskR at hR2
    clear hR
    subst hR2
    repeat' (first | (show zAC ..; first | (refine Qr rfl ?_; try intro K' hK; try simp only [go_sem, *]) | (refine Qi rfl rfl rfl rfl (fun hb K' hK => ?_) (fun hb => ?_) <;> (have hc := hb; try simp only [go_sem] at hc; simp only [go_sem, *]))) | (show Hold ..; first | refine Qh rfl ?_ | refine zAG rfl Tryz.mixed (by kernel_rfl) ?_ | (refine zAD rfl ⟨_, rfl, fun hb => ?_, fun hb => ?_⟩ <;> (have hc := hb; try simp only [go_sem] at hc)) | refine zAI rfl ?_) | (refine Qb ?_ ?_; focus kernel_rfl) | ((with_reducible refine And.intro ?_ ?_); focus omega) | (refine zAB hK ?_; clear hK K'; simp only [go_sem, *]) | (simp only [zAH, zAA, go_sem, *]))
    all_goals first | contradiction | omega | skip
    refine ⟨[.agg [iV 0, iV 0, iV 0], iV 0, iV 11], [], [], ⟨(by simp only [zAY, go_sem]), rfl, rfl, trivial⟩, ?_⟩; simp only [go_sem, *]
   ·rw [if_neg (by rintro (h | h | h) <;> omega)] at hR
    have hgi : (((zBL l ((zAJ s.first).getD k default) : Nat) : Int) == (l.length : Int)) = false := by rw [beq_eq_false_iff_ne]; omega
    clear hg
    have hR2 := hR
    unfold AskR at hR2
    clear hR
    simp only [Int.toNat_natCast] at hR2
    subst hR2
    repeat' (first | (show zAC ..; first | (refine Qr rfl ?_; try intro K' hK; try simp only [go_sem, *]) | (refine Qi rfl rfl rfl rfl (fun hb K' hK => ?_) (fun hb => ?_) <;> (have hc := hb; try simp only [go_sem] at hc; simp only [go_sem, *]))) | (show Hold ..; first | refine Qh rfl ?_ | refine zAG rfl Tryz.mixed (by kernel_rfl) ?_ | (refine zAD rfl ⟨_, rfl, fun hb => ?_, fun hb => ?_⟩ <;> (have hc := hb; try simp only [go_sem] at hc)) | refine zAI rfl ?_) | (refine Qb ?_ ?_; focus kernel_rfl) | ((with_reducible refine And.intro ?_ ?_); focus omega) | (refine zAB hK ?_; clear hK K'; simp only [go_sem, *]) | (simp only [zAH, zAA, go_sem, *]))
    all_goals first | contradiction | omega | skip
    refine ⟨[((zAJ s.first).getD k default).enc, iV (zBL l ((zAJ s.first).getD k default) : Nat), iV 0], [], [], ⟨(by simp only [zAY, go_sem]), rfl, rfl, trivial⟩, ?_⟩; simp only [go_sem, *]
end Go.Abs

namespace Go.Abs
open Go Go.Proofs
attribute [local irreducible] zAC Hold zAN
theorem zGl : zBf townX zMW = 0 := by kernel_rfl
theorem zOX : Spec Tryz.prog 20 [] [] (bV true) [] := by
 have sAfter := zMf townX zHw (by decide)
 rw [if_pos zPx, zOD, zPx] at sAfter
 have sTruths := zIK taleX zJK
 rw [zNJ] at sTruths
 have sWhere := zJE taleX (atX 0 1) zKW (by rw [zJj]; decide) (by rw [zJj]; decide)
 rw [zOF] at sWhere
 have sAsk := zLf taleX zJK (.tup [(atX 0 1).enc, iV (1 : Nat), iV 0]) (by rw [zRJ]; rfl)
 have sGuess := zMh townX zMW (by decide) (by decide)
 rw [if_pos zGl, zOE, zGl] at sGuess
 have sRow1 := zJg [1, 2, 4, 5, 7, 8] (by decide)
 have sRow2 := zJg [1, 2, 3, 4, 5, 7, 8] (by decide)
 have sPlan1 := zJF (rowX [1, 2, 4, 5, 7, 8]) [] []
 have sPlan2 := zJF (rowX [1, 2, 3, 4, 5, 7, 8]) [] []
 have sEq1 := zKL zMV zMV (by decide) (by decide)
 have sEq2 := zKK [[0, 0], [1, 0]] [[0, 0], [1, 0]] (by decide) (by decide)
 have sEq3 := zJC [atX 0 2, atX 0 5] [atX 0 2, atX 0 5] (by decide)
 have sEq4 := zII [zHw, zML] [zHw, zML] (by decide)
 have sJoin := zLt 1 0
 have sAt1 := zLv 0 1
 have sAt2 := zLv 0 2
 have sAt5 := zLv 0 5
 have sOne := zPq 6 0 3
 simp only [zMV, zMW, zHw, zML, zeroPlate, atX, decide_true, optL, Option.getD_some] at *
 refine zAF Tryz.func20 rfl (fun E hE => ?_); simp only [go_sem, Tryz.ntmps20]
 repeat' (first | (show zAC ..; first | (refine Qr rfl ?_; try intro K' hK; try simp only [go_sem, *]) | (refine Qi rfl rfl rfl rfl (fun hb K' hK => ?_) (fun hb => ?_) <;> (have hc := hb; try simp only [go_sem] at hc; simp only [go_sem, *]))) | (show Hold ..; first | refine Qh rfl ?_ | (refine zAD rfl ⟨_, rfl, fun hb => ?_, fun hb => ?_⟩ <;> (have hc := hb; try simp only [go_sem] at hc)) | refine zAI rfl ?_) | (refine Qb ?_ ?_; focus kernel_rfl) | (show zAN ..; first | ((first | refine zAK (zL3) ?_ ?_ | refine zAK (sJoin) ?_ ?_ | refine zAK (sAfter) ?_ ?_ | refine zAK (sTruths) ?_ ?_ | refine zAK (sAt1) ?_ ?_ | refine zAK (sWhere) ?_ ?_ | refine zAK (sAsk) ?_ ?_); (focus (simp only [go_sem, *]; done)); simp only [go_sem, *]) | (refine zBG (zN3) ?_ rfl ?_ ?_ ?_ ?_; (focus (simp only [go_sem, *]; done)); (focus (simp only [go_sem, *]; done)); (focus (first | (simp; done) | (simp [go_sem]; done))); (focus (first | (simp; done) | (simp [go_sem]; done))); simp only [go_sem, zA9, *]) | (refine zBG (sRow1) ?_ rfl ?_ ?_ ?_ ?_; (focus (simp only [go_sem, *]; done)); (focus (simp only [go_sem, *]; done)); (focus (first | (simp; done) | (simp [go_sem]; done))); (focus (first | (simp; done) | (simp [go_sem]; done))); simp only [go_sem, zA9, *]) | (refine zBG (sPlan1) ?_ rfl ?_ ?_ ?_ ?_; (focus (simp only [go_sem, *]; done)); (focus (simp only [go_sem, *]; done)); (focus (first | (simp; done) | (simp [go_sem]; done))); (focus (first | (simp; done) | (simp [go_sem]; done))); simp only [go_sem, zA9, *]) | (refine zBG (sGuess) ?_ rfl ?_ ?_ ?_ ?_; (focus (simp only [go_sem, *]; done)); (focus (simp only [go_sem, *]; done)); (focus (first | (simp; done) | (simp [go_sem]; done))); (focus (first | (simp; done) | (simp [go_sem]; done))); simp only [go_sem, zA9, *])) | ((with_reducible refine And.intro ?_ ?_); focus omega) | (refine zAB hK ?_; clear hK K'; simp only [go_sem, *]) | (simp only [zAH, zAA, go_sem, *]))
 all_goals first | contradiction | skip
 repeat' (first | (show zAC ..; first | (refine Qr rfl ?_; try intro K' hK; try simp only [go_sem, *]) | (refine Qi rfl rfl rfl rfl (fun hb K' hK => ?_) (fun hb => ?_) <;> (have hc := hb; try simp only [go_sem] at hc; simp only [go_sem, *]))) | (show Hold ..; first | refine Qh rfl ?_ | refine zAG rfl Tryz.mixed (by kernel_rfl) ?_ | (refine zAD rfl ⟨_, rfl, fun hb => ?_, fun hb => ?_⟩ <;> (have hc := hb; try simp only [go_sem] at hc)) | refine zAI rfl ?_) | (refine Qb ?_ ?_; focus kernel_rfl) | (show zAN ..; first | ((first | refine zAK (sJoin) ?_ ?_ | refine zAK (sOne) ?_ ?_ | refine zAK (sAt1) ?_ ?_ | refine zAK (sAt2) ?_ ?_ | refine zAK (sAt5) ?_ ?_); (focus (simp only [go_sem, *]; done)); simp only [go_sem, *]) | (refine zBG (sRow2) ?_ rfl ?_ ?_ ?_ ?_; (focus (simp only [go_sem, *]; done)); (focus (simp only [go_sem, *]; done)); (focus (first | (simp; done) | (simp [go_sem]; done))); (focus (first | (simp; done) | (simp [go_sem]; done))); simp only [go_sem, zA9, *]) | (refine zBG (sPlan2) ?_ rfl ?_ ?_ ?_ ?_; (focus (simp only [go_sem, *]; done)); (focus (simp only [go_sem, *]; done)); (focus (first | (simp; done) | (simp [go_sem]; done))); (focus (first | (simp; done) | (simp [go_sem]; done))); simp only [go_sem, zA9, *]) | (refine zBG (sEq1) ?_ rfl ?_ ?_ ?_ ?_; (focus (simp only [go_sem, *]; done)); (focus (simp only [go_sem, *]; done)); (focus (first | (simp; done) | (simp [go_sem]; done))); (focus (first | (simp; done) | (simp [go_sem]; done))); simp only [go_sem, zA9, *]) | (refine zBG (sEq2) ?_ rfl ?_ ?_ ?_ ?_; (focus (simp only [go_sem, *]; done)); (focus (simp only [go_sem, *]; done)); (focus (first | (simp; done) | (simp [go_sem]; done))); (focus (first | (simp; done) | (simp [go_sem]; done))); simp only [go_sem, zA9, *]) | (refine zBG (sEq3) ?_ rfl ?_ ?_ ?_ ?_; (focus (simp only [go_sem, *]; done)); (focus (simp only [go_sem, *]; done)); (focus (first | (simp; done) | (simp [go_sem]; done))); (focus (first | (simp; done) | (simp [go_sem]; done))); simp only [go_sem, zA9, *]) | (refine zBG (sEq4) ?_ rfl ?_ ?_ ?_ ?_; (focus (simp only [go_sem, *]; done)); (focus (simp only [go_sem, *]; done)); (focus (first | (simp; done) | (simp [go_sem]; done))); (focus (first | (simp; done) | (simp [go_sem]; done))); simp only [go_sem, zA9, *])) | ((with_reducible refine And.intro ?_ ?_); focus omega) | (refine zAB hK ?_; clear hK K'; simp only [go_sem, *]) | (simp only [zAH, zAA, go_sem, *]))
 (refine ⟨[_], [], [], ⟨rfl, trivial⟩, ?_⟩; simp only [go_sem, *])
end Go.Abs

namespace Go.Abs
open Go Go.Proofs
attribute [local irreducible] zAC Hold zAN
def zJI (p : Plan) : Bool := p.any fun l => decide (20 < l.length)
def zMz (p : Plan) : Bool := decide (20 < p.length) || zJI p
theorem zKV {p : Plan} {i : Nat} (h : i < p.length) : zJI (p.drop i) = (decide (20 < (p.getD i default).length) || zJI (p.drop (i + 1))) := by
 unfold zJI; rw [zAS h, List.any_cons]
theorem zQ7 (p : Plan) (h1 : p.length ≤ 4294967296) (W : Bool) (hW : zMz p = W) : Spec Tryz.prog 19 [zAO p] [] (bV W) [] := by
 unfold zMz at hW
 by_cases q : 20 < p.length
 ·have q2 : (p.length : Int) > 20 := by omega
  have e : decide (20 < p.length) = true := by simpa using q
  rw [e, Bool.true_or] at hW
  subst hW
  clear e q
  refine zAF Tryz.func19 rfl (fun E hE => ?_); simp only [go_sem, Tryz.ntmps19]
  repeat' (first | (show zAC ..; first | (refine Qr rfl ?_; try intro K' hK; try simp only [go_sem, *])) | (show Hold ..; first | refine Qh rfl ?_ | (refine zAD rfl ⟨_, rfl, fun hb => ?_, fun hb => ?_⟩ <;> (have hc := hb; try simp only [go_sem] at hc)) | refine zAI rfl ?_) | ((with_reducible refine And.intro ?_ ?_); focus omega) | (refine zAB hK ?_; clear hK K'; simp only [go_sem, *]) | (simp only [zAH, zAA, go_sem, *]))
  all_goals first | contradiction | omega | skip
  (refine ⟨[_], [], [], ⟨rfl, trivial⟩, ?_⟩; simp only [go_sem, *])
 ·have q2 : ¬ (p.length : Int) > 20 := by omega
  have e : decide (20 < p.length) = false := by simpa using q
  rw [e, Bool.false_or] at hW
  have hW0 : zJI (p.drop 0) = W := hW
  clear e hW
  refine zAF Tryz.func19 rfl (fun E hE => ?_); simp only [go_sem, Tryz.ntmps19]
  repeat' (first | (show zAC ..; first | (refine Qr rfl ?_; try intro K' hK; try simp only [go_sem, *])) | (show Hold ..; first | refine Qh rfl ?_ | (refine zAD rfl ⟨_, rfl, fun hb => ?_, fun hb => ?_⟩ <;> (have hc := hb; try simp only [go_sem] at hc)) | refine zAI rfl ?_) | ((with_reducible refine And.intro ?_ ?_); focus omega) | (refine zAB hK ?_; clear hK K'; simp only [go_sem, *]) | (simp only [zAH, zAA, go_sem, *]))
  all_goals first | contradiction | omega | skip
  refine zAQ rfl (fun zn zN zenv zAs => ∃ (i : Nat), zn = (p.length) - i ∧ i ≤ (p.length) ∧ (zJI (p.drop i) = W) ∧ zN = 22 ∧ zenv = [(3, iV i), (1, .ptr 0 0)] ∧ zAs = [pBox p]) (p.length) ⟨[some 0], [], _, _, _, (by (simp only [Weak, go_sem, List.map_append, List.map_set, *] <;> (try simp (disch := omega) only [zAE]) <;> (try simp) <;> (try omega))), 0, (by simp), (by simp), (by exact hW0), rfl, rfl, rfl⟩ ?_; rintro _ _ _ _ ⟨i, rfl, hi, hP, rfl, rfl, rfl⟩
  by_cases hi2 : i < p.length
  ·rw [zKV hi2] at hP
   by_cases r : 20 < (p.getD i default).length
   ·have r2 : ((p.getD i default).length : Int) > 20 := by omega
    have e : decide (20 < (p.getD i default).length) = true := by simpa using r
    rw [e, Bool.true_or] at hP
    subst hP
    clear e r
    repeat' (first | (show zAC ..; first | (refine Qr rfl ?_; try intro K' hK; try simp only [go_sem, *])) | (show Hold ..; first | refine Qh rfl ?_ | (refine zAD rfl ⟨_, rfl, fun hb => ?_, fun hb => ?_⟩ <;> (have hc := hb; try simp only [go_sem] at hc)) | refine zAI rfl ?_) | ((with_reducible refine And.intro ?_ ?_); focus omega) | (refine zAB hK ?_; clear hK K'; simp only [go_sem, *]) | (simp only [zAH, zAA, go_sem, *]))
    all_goals first | contradiction | omega | skip
    (refine ⟨[_], [], [], ⟨rfl, trivial⟩, ?_⟩; simp only [go_sem, *])
   ·have r2 : ¬ ((p.getD i default).length : Int) > 20 := by omega
    have e : decide (20 < (p.getD i default).length) = false := by simpa using r
    rw [e, Bool.false_or] at hP
    clear e r
    repeat' (first | (show zAC ..; first | (refine Qr rfl ?_; try intro K' hK; try simp only [go_sem, *])) | (show Hold ..; first | refine Qh rfl ?_ | (refine zAD rfl ⟨_, rfl, fun hb => ?_, fun hb => ?_⟩ <;> (have hc := hb; try simp only [go_sem] at hc)) | refine zAI rfl ?_) | ((with_reducible refine And.intro ?_ ?_); focus omega) | (refine zAB hK ?_; clear hK K'; simp only [go_sem, *]) | (simp only [zAH, zAA, go_sem, *]))
    all_goals first | contradiction | omega | skip
    refine ⟨_, (by omega), [some 0], [], _, _, _, (by (simp only [Weak, go_sem, List.map_append, List.map_set, *] <;> (try simp (disch := omega) only [zAE]) <;> (try simp) <;> (try omega))), i + 1, rfl, (by omega), (by exact hP), rfl, rfl, rfl⟩
  ·rw [zAX (by omega)] at hP
   have hP2 : false = W := hP
   subst hP2
   repeat' (first | (show zAC ..; first | (refine Qr rfl ?_; try intro K' hK; try simp only [go_sem, *])) | (show Hold ..; first | refine Qh rfl ?_ | (refine zAD rfl ⟨_, rfl, fun hb => ?_, fun hb => ?_⟩ <;> (have hc := hb; try simp only [go_sem] at hc)) | refine zAI rfl ?_) | ((with_reducible refine And.intro ?_ ?_); focus omega) | (refine zAB hK ?_; clear hK K'; simp only [go_sem, *]) | (simp only [zAH, zAA, go_sem, *]))
   (refine ⟨[_], [], [], ⟨rfl, trivial⟩, ?_⟩; simp only [go_sem, *])
theorem zOZ {p : Plan} (v : Valid p) : zMz p = false := by
 unfold zMz zJI
 rw [Bool.or_eq_false_iff]
 refine ⟨by simp; have := v.len; omega, ?_⟩
 rw [List.any_eq_false]
 intro l hl
 have := (v.rows l hl).len
 simp; omega
end Go.Abs

namespace Go.Abs
open Go Go.Proofs
attribute [local irreducible] zAC Hold zAN
attribute [go_sem] zA3 Nat.le_refl Nat.sub_zero Int.reduceGT Nat.reduceGT Int.reduceGE
@[go_sem ↓] theorem zQN (a b : Int) (K : Cont) : intA .xor .u64 a b K = K (uV (zF2 a b)) [] [] := rfl
@[go_sem ↓] theorem zOT (a b : Int) (K : Cont) : zFr .shl .u64 a b K = (0 ≤ b ∧ K (uV (zLd a b.toNat)) [] []) := rfl
@[go_sem ↓] theorem zOU (a b : Int) (K : Cont) : zFr .shr .u64 a b K = (0 ≤ b ∧ K (uV (zDs a b.toNat)) [] []) := rfl
@[go_sem] theorem zO2 (s : Int) : zF2 s (zLd s 13) = mix1 s := rfl
@[go_sem] theorem zO3 (s : Int) : zF2 s (zDs s 7) = mix2 s := rfl
@[go_sem] theorem zO4 (s : Int) : zF2 s (zLd s 17) = mix3 s := rfl
@[go_sem] theorem zOK (s : Int) : mix3 (mix2 (mix1 s)) = zH7 s := rfl
@[go_sem] theorem zO5 (n : Int) : IntKind.u64.wrap (zF2 n (zDs n 30) * 10723151780598845931) = rawM n := rfl
theorem zPr (d : Dice) (h : d.list.length ≤ 4294967296) : Spec Tryz.prog 95 [.ptr 0 0] [zA3 d] (uV (rawN d)) [zA3 (rawD d)] := by
 have e2 : (rawD d).list = d.list := rfl
 have e4 : (rawD d).seed = rawS d := rfl
 have e6 : rawN d = zF2 (rawM (rawS d)) (zDs (rawM (rawS d)) 31) := rfl
 by_cases q : d.at_ < d.list.length
 ·have q2 : ((d.at_ : Int) < (d.list.length : Int)) := by omega
  have e1 : rawS d = IntKind.u64.wrap (zH7 d.seed + IntKind.u64.wrap (IntKind.u64.wrap (d.list.getD d.at_ default) * 13787848793156543929)) := by unfold rawS; rw [if_pos q]
  have e3 : (rawD d).at_ = d.at_ + 1 := by unfold rawD; simp only; rw [if_pos q]
  have e5 : IntKind.i64.wrap ((d.at_ : Int) + 1) = ((d.at_ + 1 : Nat) : Int) := zAE (by omega)
  generalize rawD d = d' at *
  refine zAF Tryz.func95 rfl (fun E hE => ?_); simp only [go_sem, Tryz.ntmps95]
  repeat' (first | (show zAC ..; first | (refine Qr rfl ?_; try intro K' hK; try simp only [go_sem, *])) | (show Hold ..; first | refine Qh rfl ?_ | refine zAG rfl Tryz.mixed (by kernel_rfl) ?_ | (refine zAD rfl ⟨_, rfl, fun hb => ?_, fun hb => ?_⟩ <;> (have hc := hb; try simp only [go_sem] at hc)) | refine zAI rfl ?_) | (refine Qb ?_ ?_; focus kernel_rfl) | ((with_reducible refine And.intro ?_ ?_); focus omega) | (refine zAB hK ?_; clear hK K'; simp only [go_sem, *]) | (simp only [zAH, zAA, go_sem, *]))
  all_goals first | contradiction | omega | skip
  refine ⟨[_], [some 0], [], ⟨rfl, trivial⟩, ?_⟩
  simp only [go_sem, *]
 ·have q2 : ¬ ((d.at_ : Int) < (d.list.length : Int)) := by omega
  have e1 : rawS d = zH7 d.seed := by unfold rawS; rw [if_neg q]
  have e3 : (rawD d).at_ = d.at_ := by unfold rawD; simp only; rw [if_neg q]
  generalize rawD d = d' at *
  refine zAF Tryz.func95 rfl (fun E hE => ?_); simp only [go_sem, Tryz.ntmps95]
  repeat' (first | (show zAC ..; first | (refine Qr rfl ?_; try intro K' hK; try simp only [go_sem, *])) | (show Hold ..; first | refine Qh rfl ?_ | refine zAG rfl Tryz.mixed (by kernel_rfl) ?_ | (refine zAD rfl ⟨_, rfl, fun hb => ?_, fun hb => ?_⟩ <;> (have hc := hb; try simp only [go_sem] at hc)) | refine zAI rfl ?_) | (refine Qb ?_ ?_; focus kernel_rfl) | ((with_reducible refine And.intro ?_ ?_); focus omega) | (refine zAB hK ?_; clear hK K'; simp only [go_sem, *]) | (simp only [zAH, zAA, go_sem, *]))
  all_goals first | contradiction | omega | skip
  refine ⟨[_], [some 0], [], ⟨rfl, trivial⟩, ?_⟩
  simp only [go_sem, *]
theorem zA2 (n : Int) (d : Dice) : (toD n d).list = d.list := by unfold toD; split <;> rfl
theorem zLi (d : Dice) (n : Int) (h : d.list.length ≤ 4294967296) (hn : n ≤ 4294967296) : Spec Tryz.prog 30 [.ptr 0 0, iV n] [zA3 d] (iV (toN n d)) [zA3 (toD n d)] := by
 by_cases q : n < 1
 ·have e1 : toN n d = 0 := by unfold toN; rw [if_pos q]
  have e2 : toD n d = d := by unfold toD; rw [if_pos q]
  refine zAF Tryz.func30 rfl (fun E hE => ?_); simp only [go_sem, Tryz.ntmps30]
  repeat' (first | (show zAC ..; first | (refine Qr rfl ?_; try intro K' hK; try simp only [go_sem, *])) | (show Hold ..; first | refine Qh rfl ?_ | (refine zAD rfl ⟨_, rfl, fun hb => ?_, fun hb => ?_⟩ <;> (have hc := hb; try simp only [go_sem] at hc)) | refine zAI rfl ?_) | ((with_reducible refine And.intro ?_ ?_); focus omega) | (refine zAB hK ?_; clear hK K'; simp only [go_sem, *]) | (simp only [zAH, zAA, go_sem, *]))
  all_goals first | contradiction | omega | skip
  refine ⟨[_], [some 0], [], ⟨rfl, trivial⟩, ?_⟩
  simp only [go_sem, *]
 ·have e1 : toN n d = (zDs (rawN d) 16).tmod (n + 1) := by unfold toN; rw [if_neg q]
  have e2 : toD n d = rawD d := by unfold toD; rw [if_neg q]
  have hr := zEN n d
  rw [e1] at hr
  have e3 : IntKind.i64.wrap (n + 1) = n + 1 := wrap_i64 (by omega) (by omega)
  have e4 : IntKind.u64.wrap (n + 1) = n + 1 := by rw [IntKind.wrap_u64]; omega
  have e5 : IntKind.i64.wrap ((zDs (rawN d) 16).tmod (n + 1)) = (zDs (rawN d) 16).tmod (n + 1) := wrap_i64 (by omega) (by omega)
  have e6 : ¬ n + 1 = 0 := by omega
  have sr := zPr d h
  generalize rawN d = r at *
  generalize rawD d = d' at *
  clear hr
  refine zAF Tryz.func30 rfl (fun E hE => ?_); simp only [go_sem, Tryz.ntmps30]
  repeat' (first | (show zAC ..; first | (refine Qr rfl ?_; try intro K' hK; try simp only [go_sem, *])) | (show Hold ..; first | refine Qh rfl ?_ | (refine zAD rfl ⟨_, rfl, fun hb => ?_, fun hb => ?_⟩ <;> (have hc := hb; try simp only [go_sem] at hc)) | refine zAI rfl ?_) | (show zAN ..; first | (refine zAR [0] [] (sr) (by simp) ?_ ?_ (by simp) (.inl rfl) ?_ ?_ ?_; (focus (simp only [go_sem, *]; done)); (focus (simp only [go_sem, *]; done)); (focus (first | (simp; done) | (simp [go_sem]; done))); (focus (first | (simp; done) | (simp [go_sem]; done))); simp only [go_sem, *])) | ((with_reducible refine And.intro ?_ ?_); focus omega) | (refine zAB hK ?_; clear hK K'; simp only [go_sem, *]) | (simp only [zAH, zAA, go_sem, *]))
  all_goals first | contradiction | omega | skip
  refine ⟨[_], [some 0], [], ⟨rfl, trivial⟩, ?_⟩
  simp only [go_sem, *]
theorem zDH (d : Dice) (lo hi : Int) (h : d.list.length ≤ 4294967296) (hl : 0 ≤ lo ∧ lo ≤ hi) (hh : hi ≤ 4294967296) : Spec Tryz.prog 83 [.ptr 0 0, iV lo, iV hi] [zA3 d] (iV (zBs lo hi d)) [zA3 (zA5 lo hi d)] := by
 have st := zLi d (hi - lo) h (by omega)
 have hf := zCU hl.2 d
 have e1 : IntKind.i64.wrap (hi - lo) = hi - lo := wrap_i64 (by omega) (by omega)
 have e2 : IntKind.i64.wrap (lo + toN (hi - lo) d) = zBs lo hi d := by
  have : lo + toN (hi - lo) d = zBs lo hi d := rfl
  rw [this]; exact wrap_i64 (by omega) (by omega)
 have e3 : zA5 lo hi d = toD (hi - lo) d := rfl
 rw [e3]
 generalize zBs lo hi d = r at *
 clear e3 hf hl
 refine zAF Tryz.func83 rfl (fun E hE => ?_); simp only [go_sem, Tryz.ntmps83]
 repeat' (first | (show zAC ..; first | (refine Qr rfl ?_; try intro K' hK; try simp only [go_sem, *])) | (show Hold ..; first | refine Qh rfl ?_ | (refine zAD rfl ⟨_, rfl, fun hb => ?_, fun hb => ?_⟩ <;> (have hc := hb; try simp only [go_sem] at hc)) | refine zAI rfl ?_) | (show zAN ..; first | (refine zAR [0] [] (st) (by simp) ?_ ?_ (by simp) (.inl rfl) ?_ ?_ ?_; (focus (simp only [go_sem, *]; done)); (focus (simp only [go_sem, *]; done)); (focus (first | (simp; done) | (simp [go_sem]; done))); (focus (first | (simp; done) | (simp [go_sem]; done))); simp only [go_sem, *])) | ((with_reducible refine And.intro ?_ ?_); focus omega) | (refine zAB hK ?_; clear hK K'; simp only [go_sem, *]) | (simp only [zAH, zAA, go_sem, *]))
 refine ⟨[_], [some 0], [], ⟨rfl, trivial⟩, ?_⟩
 simp only [go_sem, *]
theorem zJD (d : Dice) (k : Int) (h : d.list.length ≤ 4294967296) (hk : 0 ≤ k ∧ k ≤ 4294967296) : Spec Tryz.prog 84 [.ptr 0 0, iV k] [zA3 d] (bV (zGB k d)) [zA3 (zCB k d)] := by
 have st := zLi d (k - 1) h (by omega)
 have e1 : IntKind.i64.wrap (k - 1) = k - 1 := wrap_i64 (by omega) (by omega)
 have e2 : zGB k d = (toN (k - 1) d == 0) := rfl
 have e3 : zCB k d = toD (k - 1) d := rfl
 rw [e3, e2]
 clear e2 e3 hk
 refine zAF Tryz.func84 rfl (fun E hE => ?_); simp only [go_sem, Tryz.ntmps84]
 repeat' (first | (show zAC ..; first | (refine Qr rfl ?_; try intro K' hK; try simp only [go_sem, *])) | (show Hold ..; first | refine Qh rfl ?_ | (refine zAD rfl ⟨_, rfl, fun hb => ?_, fun hb => ?_⟩ <;> (have hc := hb; try simp only [go_sem] at hc)) | refine zAI rfl ?_) | (show zAN ..; first | (refine zAR [0] [] (st) (by simp) ?_ ?_ (by simp) (.inl rfl) ?_ ?_ ?_; (focus (simp only [go_sem, *]; done)); (focus (simp only [go_sem, *]; done)); (focus (first | (simp; done) | (simp [go_sem]; done))); (focus (first | (simp; done) | (simp [go_sem]; done))); simp only [go_sem, *])) | ((with_reducible refine And.intro ?_ ?_); focus omega) | (refine zAB hK ?_; clear hK K'; simp only [go_sem, *]) | (simp only [zAH, zAA, go_sem, *]))
 refine ⟨[_], [some 0], [], ⟨rfl, trivial⟩, ?_⟩
 simp only [go_sem, *]
def zLP (l : List Int) : Dice := ⟨l, 0, 11400714819323198485⟩
theorem zOW (l : List Int) : Spec Tryz.prog 21 [zBe l] [] (.ptr 0 0) [zA3 (zLP l)] := by
 refine zAF Tryz.func21 rfl (fun E hE => ?_); simp only [go_sem, Tryz.ntmps21]
 repeat' (first | (show zAC ..; first | (refine Qr rfl ?_; try intro K' hK; try simp only [go_sem, *])) | (show Hold ..; first | refine Qh rfl ?_ | (refine zAD rfl ⟨_, rfl, fun hb => ?_, fun hb => ?_⟩ <;> (have hc := hb; try simp only [go_sem] at hc)) | refine zAI rfl ?_) | ((with_reducible refine And.intro ?_ ?_); focus omega) | (refine zAB hK ?_; clear hK K'; simp only [go_sem, *]) | (simp only [zAH, zAA, go_sem, *]))
 refine ⟨[_], [some 0], [], ⟨rfl, trivial⟩, ?_⟩
 simp only [go_sem, zLP, *]
end Go.Abs

namespace Go.Abs
open Go Go.Proofs
attribute [local irreducible] zAC Hold zAN
theorem zCG (a b : Int) (d : Dice) : (zA5 a b d).list = d.list := zA2 _ _
theorem zCj (k : Int) (d : Dice) : (zCB k d).list = d.list := zA2 _ _
theorem zFn (d : Dice) : (zDg d).2.list = d.list := by
 unfold zDg zGa
 split
 ·simp only [zCG, zCj]
 ·simp only [zCG, zCj]
theorem zEy : ∀ (n : Nat) (d : Dice) (out : List Plate), (zDC n d out).2.list = d.list
 | 0, d, out => rfl
 | n + 1, d, out => by rw [zDC, zEy n]; exact zFn d
theorem zHE (d : Dice) (m : Int) : (zBj d m).2.list = d.list := by unfold zBj; rw [zEy, zA2]
def PlP (most : Int) (d : Dice) (k : Nat) (dd : Dice) (acc : List Plate) (R : List Plate × Dice) : Prop := zDC k dd acc = R ∧ dd.list.length ≤ 4294967296 ∧ acc.length + k ≤ 8
theorem PlP.next {most : Int} {d dd : Dice} {k : Nat} {acc : List Plate} {R : List Plate × Dice} (h : PlP most d (k + 1) dd acc R) : PlP most d k (zDg dd).2 (zDc (zDg dd).1 acc) R := by
 obtain ⟨h1, h2, h3⟩ := h
 have := zFe (x := (zDg dd).1) (l := acc)
 exact ⟨h1, by rw [zFn]; exact h2, by omega⟩
def AtP (x : Plate) (acc : List Plate) (j : Nat) : Prop := ∀ m, m < j → (acc.getD m default).lt x = true
theorem AtP.next {x : Plate} {acc : List Plate} {j : Nat} (h : AtP x acc j) (hx : (acc.getD j default).lt x = true) : AtP x acc (j + 1) := fun m hm => by
 rcases Nat.lt_succ_iff_lt_or_eq.1 hm with h1 | rfl
 ·exact h m h1
 ·exact hx
theorem zFs (d : Dice) (most : Int) (h : d.list.length ≤ 4294967296) (hm : most ≤ 8) :
  Spec Tryz.prog 85 [.ptr 0 0, iV most] [zA3 d] (.list ((zBj d most).1.map Plate.enc)) [zA3 (zBj d most).2] := by
 have st := zLi d most h (by omega)
 have hr := zEN most d
 obtain ⟨n, hn⟩ : ∃ n : Nat, toN most d = n := ⟨(toN most d).toNat, by omega⟩
 have h0 : PlP most d (n - 0) (toD most d) [] (zBj d most) := by
  unfold zBj
  rw [hn]
  exact ⟨by simp, by rw [zA2]; exact h, by simp; omega⟩
 rw [hn] at st hr
 generalize zBj d most = R at *
 obtain ⟨RL, RD⟩ := R
 clear hn
 generalize toD most d = d0 at *
 refine zAF Tryz.func85 rfl (fun E hE => ?_); simp only [go_sem, Tryz.ntmps85]
 repeat' (first | (show zAC ..; first | (refine Qr rfl ?_; try intro K' hK; try simp only [go_sem, *]) | (refine Qi rfl rfl rfl rfl (fun hb K' hK => ?_) (fun hb => ?_) <;> (have hc := hb; try simp only [go_sem] at hc; simp only [go_sem, *]))) | (show Hold ..; first | refine Qh rfl ?_ | refine zAG rfl Tryz.mixed (by kernel_rfl) ?_ | (refine zAD rfl ⟨_, rfl, fun hb => ?_, fun hb => ?_⟩ <;> (have hc := hb; try simp only [go_sem] at hc)) | refine zAI rfl ?_) | (refine Qb ?_ ?_; focus kernel_rfl) | (show zAN ..; first | (refine zAR [0] [] (st) (by simp) ?_ ?_ (by simp) (.inl rfl) ?_ ?_ ?_; (focus (simp only [go_sem, *]; done)); (focus (simp only [go_sem, *]; done)); (focus (first | (simp; done) | (simp [go_sem]; done))); (focus (first | (simp; done) | (simp [go_sem]; done))); simp only [go_sem, *])) | ((with_reducible refine And.intro ?_ ?_); focus omega) | (refine zAB hK ?_; clear hK K'; simp only [go_sem, *]) | (simp only [zAH, zAA, go_sem, *]))
 refine zAQ rfl (fun zn zN zenv zAs => ∃ (i : Nat) (dd : Dice) (acc : List Plate), zn = (n) - i ∧ i ≤ (n) ∧ (PlP most d (n - i) dd acc (RL, RD)) ∧ zN = 63 ∧ zenv = [(6, iV ((n - i : Nat) : Int)), (5, .own 1 2 0 acc.length), (0, .ptr 0 0)] ∧ zAs = [zA3 dd, .row 2 (acc.map Plate.enc)]) (n) ⟨[some 0, none], [], _, _, _, (by (simp only [Weak, go_sem, List.map_append, List.map_set, *] <;> (try simp (disch := omega) only [zAE]) <;> (try simp) <;> (try omega))), 0, d0, [], (by simp), (by simp), (by exact h0), rfl, rfl, rfl⟩ ?_; rintro _ _ _ _ ⟨i, dd, acc, rfl, hi, hP, rfl, rfl, rfl⟩
 clear h0 st
 by_cases hi2 : i < n
 ·obtain ⟨k, hk⟩ : ∃ k, n - i = k + 1 := ⟨n - i - 1, by omega⟩
  have hk2 : n - (i + 1) = k := by omega
  rw [hk] at hP ⊢
  have hnx := hP.next
  have hw1 : IntKind.i64.wrap (((k + 1 : Nat) : Int) - 1) = (k : Int) := by rw [wrap_i64 (by omega) (by omega)]; omega
  have hgt : ((k + 1 : Nat) : Int) > 0 := by omega
  obtain ⟨_, hdl, hal⟩ := hP
  have s1 := zDH dd 1 9 hdl (by omega) (by omega)
  have s2 := zJD (zA5 1 9 dd) 4 (by rw [zCG]; exact hdl) (by omega)
  have s3 := zDH (zCB 4 (zA5 1 9 dd)) 1 2 (by rw [zCj, zCG]; exact hdl) (by omega) (by omega)
  unfold zDg at hnx
  generalize zBs 1 9 dd = x1 at *
  generalize zA5 1 9 dd = d1 at *
  generalize zCB 4 d1 = d2 at *
  generalize zBs 1 2 d2 = x2 at *
  generalize zA5 1 2 d2 = d3 at *
  obtain ⟨⟨x, d'⟩, hxd⟩ : ∃ xd, xd = zGa x1 (zGB 4 d1) x2 d3 d2 := ⟨_, rfl⟩
  rw [← hxd] at hnx
  generalize zGB 4 d1 = b at *
  have hxq : b = true ∧ x = ⟨x1, x2⟩ ∧ d' = d3 ∨ b = false ∧ x = ⟨x1, 0⟩ ∧ d' = d2 := by
   unfold zGa at hxd
   cases b
   ·right; simpa using hxd
   ·left; simpa using hxd
  clear hxd
  rcases hxq with ⟨rfl, hx, hd⟩ | ⟨rfl, hx, hd⟩
  all_goals repeat' (first | (show zAC ..; first | (refine Qr rfl ?_; try intro K' hK; try simp only [go_sem, *]) | (refine Qi rfl rfl rfl rfl (fun hb K' hK => ?_) (fun hb => ?_) <;> (have hc := hb; try simp only [go_sem] at hc; simp only [go_sem, *]))) | (show Hold ..; first | refine Qh rfl ?_ | refine zAG rfl Tryz.mixed (by kernel_rfl) ?_ | (refine zAD rfl ⟨_, rfl, fun hb => ?_, fun hb => ?_⟩ <;> (have hc := hb; try simp only [go_sem] at hc)) | refine zAI rfl ?_) | (refine Qb ?_ ?_; focus kernel_rfl) | (show zAN ..; first | (refine zAR [0] [] (s1) (by simp) ?_ ?_ (by simp) (.inl rfl) ?_ ?_ ?_; (focus (simp only [go_sem, *]; done)); (focus (simp only [go_sem, *]; done)); (focus (first | (simp; done) | (simp [go_sem]; done))); (focus (first | (simp; done) | (simp [go_sem]; done))); simp only [go_sem, *]) | (refine zAR [0] [] (s2) (by simp) ?_ ?_ (by simp) (.inl rfl) ?_ ?_ ?_; (focus (simp only [go_sem, *]; done)); (focus (simp only [go_sem, *]; done)); (focus (first | (simp; done) | (simp [go_sem]; done))); (focus (first | (simp; done) | (simp [go_sem]; done))); simp only [go_sem, *]) | (refine zAR [0] [] (s3) (by simp) ?_ ?_ (by simp) (.inl rfl) ?_ ?_ ?_; (focus (simp only [go_sem, *]; done)); (focus (simp only [go_sem, *]; done)); (focus (first | (simp; done) | (simp [go_sem]; done))); (focus (first | (simp; done) | (simp [go_sem]; done))); simp only [go_sem, *])) | ((with_reducible refine And.intro ?_ ?_); focus omega) | (refine zAB hK ?_; clear hK K'; simp only [go_sem, *]) | (simp only [zAH, zAA, go_sem, *]))
  all_goals first | contradiction | skip
  all_goals
   have hx1 := congrArg Plate.number hx
   have hx2 := congrArg Plate.letter hx
   simp only at hx1 hx2
   refine zD6 (N := 63) (env := [(8, iV 0), (7, .ptr 2 0), (6, iV ((k + 1 : Nat) : Int)), (5, .own 1 2 0 acc.length), (0, .ptr 0 0)]) (As := [zA3 d', .row 2 (acc.map Plate.enc), .box [iV x.number, iV x.letter]]) [some 0, some 1, some 2] [] (by (simp only [Weak, go_sem, List.map_append, List.map_set, *] <;> (try simp (disch := omega) only [zAE]) <;> (try simp) <;> (try omega))) ?_
   clear hx hd hx1 hx2 s1 s2 s3 hm hr
   refine zAQ rfl (fun zn zN zenv zAs => ∃ (j : Nat), zn = (acc.length) - j ∧ j ≤ (acc.length) ∧ (AtP x acc j) ∧ zN = 63 ∧ zenv = [(8, iV j), (7, .ptr 2 0), (6, iV ((k + 1 : Nat) : Int)), (5, .own 1 2 0 acc.length), (0, .ptr 0 0)] ∧ zAs = [zA3 d', .row 2 (acc.map Plate.enc), .box [iV x.number, iV x.letter]]) (acc.length) ⟨[some 0, some 1, some 2], [], _, _, _, (by (simp only [Weak, go_sem, List.map_append, List.map_set, *] <;> (try simp (disch := omega) only [zAE]) <;> (try simp) <;> (try omega))), 0, (by simp), (by simp), (by exact fun m hm => absurd hm (by omega)), rfl, rfl, rfl⟩ ?_; rintro _ _ _ _ ⟨j, rfl, hj, hJ, rfl, rfl, rfl⟩
   have hmn : min j acc.length = j := by omega
   have hl2 : j + (acc.length - j + 1) = j + 1 + (acc.length - j) := by omega
   have hdl2 : (List.drop j (List.map Plate.enc acc)).length = acc.length - j := by simp
   have htd : List.take (acc.length - j) (List.drop j (List.map Plate.enc acc)) = List.drop j (List.map Plate.enc acc) := List.take_of_length_le (by simp)
   by_cases hj2 : j < acc.length
   ·have hj3 : ((j : Int) == (acc.length : Int)) = false := by simp; omega
    have sb := zIL (acc.getD j default) x
    by_cases hlt : (acc.getD j default).lt x = true
    ·rw [hlt] at sb
     repeat' (first | (show zAC ..; first | (refine Qr rfl ?_; try intro K' hK; try simp only [go_sem, *]) | (refine Qi rfl rfl rfl rfl (fun hb K' hK => ?_) (fun hb => ?_) <;> (have hc := hb; try simp only [go_sem] at hc; simp only [go_sem, *]))) | (show Hold ..; first | refine Qh rfl ?_ | refine zAG rfl Tryz.mixed (by kernel_rfl) ?_ | (refine zAD rfl ⟨_, rfl, fun hb => ?_, fun hb => ?_⟩ <;> (have hc := hb; try simp only [go_sem] at hc)) | refine zAI rfl ?_) | (with_reducible (show (∀ _ : AV, _ → _) ∧ _); refine And.intro ?_ ?_; (focus (intro y hy; first | (obtain ⟨z, _, rfl⟩ := List.mem_map.1 (hy); simp [go_sem]; done) | (obtain ⟨z, _, rfl⟩ := List.mem_map.1 (List.mem_of_mem_take hy); simp [go_sem]; done) | (obtain ⟨z, _, rfl⟩ := List.mem_map.1 (List.mem_of_mem_drop hy); simp [go_sem]; done) | (obtain ⟨z, _, rfl⟩ := List.mem_map.1 (List.mem_of_mem_drop (List.mem_of_mem_take hy)); simp [go_sem]; done)))) | (refine Qb ?_ ?_; focus kernel_rfl) | (show zAN ..; first | (refine zAK (sb) ?_ ?_; (focus (simp only [go_sem, *]; done)); simp only [go_sem, *])) | ((with_reducible refine And.intro ?_ ?_); focus omega) | (refine zAB hK ?_; clear hK K'; simp only [go_sem, *]) | (simp only [zAH, zAA, go_sem, *]))
     all_goals first | contradiction | skip
     refine ⟨_, (by omega), [some 0, some 1, some 2], [], _, _, _, (by (simp only [Weak, go_sem, List.map_append, List.map_set, *] <;> (try simp (disch := omega) only [zAE]) <;> (try simp) <;> (try omega))), j + 1, rfl, (by omega), (by exact hJ.next hlt), rfl, rfl, rfl⟩
    ·rw [Bool.not_eq_true] at hlt
     rw [hlt] at sb
     have hin := zG5 (by omega) hJ (fun _ => hlt)
     by_cases heq : acc.getD j default = x
     ·rw [if_pos ⟨hj2, heq⟩] at hin
      rw [hin] at hnx
      clear hin
      have hne : (decide (acc.getD j default = x)) = true := by simpa using heq
      clear heq
      repeat' (first | (show zAC ..; first | (refine Qr rfl ?_; try intro K' hK; try simp only [go_sem, *]) | (refine Qi rfl rfl rfl rfl (fun hb K' hK => ?_) (fun hb => ?_) <;> (have hc := hb; try simp only [go_sem] at hc; simp only [go_sem, *]))) | (show Hold ..; first | refine Qh rfl ?_ | refine zAG rfl Tryz.mixed (by kernel_rfl) ?_ | (refine zAD rfl ⟨_, rfl, fun hb => ?_, fun hb => ?_⟩ <;> (have hc := hb; try simp only [go_sem] at hc)) | refine zAI rfl ?_) | (with_reducible (show (∀ _ : AV, _ → _) ∧ _); refine And.intro ?_ ?_; (focus (intro y hy; first | (obtain ⟨z, _, rfl⟩ := List.mem_map.1 (hy); simp [go_sem]; done) | (obtain ⟨z, _, rfl⟩ := List.mem_map.1 (List.mem_of_mem_take hy); simp [go_sem]; done) | (obtain ⟨z, _, rfl⟩ := List.mem_map.1 (List.mem_of_mem_drop hy); simp [go_sem]; done) | (obtain ⟨z, _, rfl⟩ := List.mem_map.1 (List.mem_of_mem_drop (List.mem_of_mem_take hy)); simp [go_sem]; done)))) | (refine Qb ?_ ?_; focus kernel_rfl) | (show zAN ..; first | (refine zAK (sb) ?_ ?_; (focus (simp only [go_sem, *]; done)); simp only [go_sem, *])) | ((with_reducible refine And.intro ?_ ?_); focus omega) | (refine zAB hK ?_; clear hK K'; simp only [go_sem, *]) | (simp only [zAH, zAA, go_sem, *]))
      all_goals first | contradiction | skip
      refine ⟨_, (by omega), [some 0, some 1], [], _, _, _, (by (simp only [Weak, go_sem, List.map_append, List.map_set, *] <;> (try simp (disch := omega) only [zAE]) <;> (try simp) <;> (try omega))), i + 1, d', acc, rfl, (by omega), (by rw [hk2]; exact hnx), rfl, rfl, rfl⟩
     ·rw [if_neg (fun h => heq h.2)] at hin
      rw [hin] at hnx
      clear hin
      have hne : (decide (acc.getD j default = x)) = false := by simpa using heq
      clear heq
      repeat' (first | (show zAC ..; first | (refine Qr rfl ?_; try intro K' hK; try simp only [go_sem, *]) | (refine Qi rfl rfl rfl rfl (fun hb K' hK => ?_) (fun hb => ?_) <;> (have hc := hb; try simp only [go_sem] at hc; simp only [go_sem, *]))) | (show Hold ..; first | refine Qh rfl ?_ | refine zAG rfl Tryz.mixed (by kernel_rfl) ?_ | (refine zAD rfl ⟨_, rfl, fun hb => ?_, fun hb => ?_⟩ <;> (have hc := hb; try simp only [go_sem] at hc)) | refine zAI rfl ?_) | (with_reducible (show (∀ _ : AV, _ → _) ∧ _); refine And.intro ?_ ?_; (focus (intro y hy; first | (obtain ⟨z, _, rfl⟩ := List.mem_map.1 (hy); simp [go_sem]; done) | (obtain ⟨z, _, rfl⟩ := List.mem_map.1 (List.mem_of_mem_take hy); simp [go_sem]; done) | (obtain ⟨z, _, rfl⟩ := List.mem_map.1 (List.mem_of_mem_drop hy); simp [go_sem]; done) | (obtain ⟨z, _, rfl⟩ := List.mem_map.1 (List.mem_of_mem_drop (List.mem_of_mem_take hy)); simp [go_sem]; done)))) | (refine Qb ?_ ?_; focus kernel_rfl) | (show zAN ..; first | (refine zAK (sb) ?_ ?_; (focus (simp only [go_sem, *]; done)); simp only [go_sem, *])) | ((with_reducible refine And.intro ?_ ?_); focus omega) | (refine zAB hK ?_; clear hK K'; simp only [go_sem, *]) | (simp only [zAH, zAA, go_sem, *]))
      all_goals first | contradiction | skip
      refine ⟨_, (by omega), [some 0, some 7], [], _, _, _, (by (simp only [Weak, go_sem, List.map_append, List.map_set, *] <;> (try simp (disch := omega) only [zAE]) <;> (try simp) <;> (try omega))), i + 1, d', acc.take j ++ x :: acc.drop j, rfl, (by omega), (by rw [hk2]; exact hnx), rfl, rfl, rfl⟩
   ·have hin := zG5 (x := x) (l := acc) (k := j) (by omega) hJ (fun h => absurd h hj2)
    rw [if_neg (fun h => hj2 h.1)] at hin
    rw [hin] at hnx
    clear hin
    have hj3 : ((j : Int) == (acc.length : Int)) = true := by simp; omega
    repeat' (first | (show zAC ..; first | (refine Qr rfl ?_; try intro K' hK; try simp only [go_sem, *]) | (refine Qi rfl rfl rfl rfl (fun hb K' hK => ?_) (fun hb => ?_) <;> (have hc := hb; try simp only [go_sem] at hc; simp only [go_sem, *]))) | (show Hold ..; first | refine Qh rfl ?_ | refine zAG rfl Tryz.mixed (by kernel_rfl) ?_ | (refine zAD rfl ⟨_, rfl, fun hb => ?_, fun hb => ?_⟩ <;> (have hc := hb; try simp only [go_sem] at hc)) | refine zAI rfl ?_) | (with_reducible (show (∀ _ : AV, _ → _) ∧ _); refine And.intro ?_ ?_; (focus (intro y hy; first | (obtain ⟨z, _, rfl⟩ := List.mem_map.1 (hy); simp [go_sem]; done) | (obtain ⟨z, _, rfl⟩ := List.mem_map.1 (List.mem_of_mem_take hy); simp [go_sem]; done) | (obtain ⟨z, _, rfl⟩ := List.mem_map.1 (List.mem_of_mem_drop hy); simp [go_sem]; done) | (obtain ⟨z, _, rfl⟩ := List.mem_map.1 (List.mem_of_mem_drop (List.mem_of_mem_take hy)); simp [go_sem]; done)))) | (refine Qb ?_ ?_; focus kernel_rfl) | ((with_reducible refine And.intro ?_ ?_); focus omega) | (refine zAB hK ?_; clear hK K'; simp only [go_sem, *]) | (simp only [zAH, zAA, go_sem, *]))
    all_goals first | contradiction | skip
    refine ⟨_, (by omega), [some 0, some 7], [], _, _, _, (by (simp only [Weak, go_sem, List.map_append, List.map_set, *] <;> (try simp (disch := omega) only [zAE]) <;> (try simp) <;> (try omega))), i + 1, d', acc.take j ++ x :: acc.drop j, rfl, (by omega), (by rw [hk2]; exact hnx), rfl, rfl, rfl⟩
 ·have hni : n - i = 0 := by omega
  rw [hni] at hP ⊢
  obtain ⟨e, _, _⟩ := hP
  rw [zDC] at e
  cases e
  repeat' (first | (show zAC ..; first | (refine Qr rfl ?_; try intro K' hK; try simp only [go_sem, *]) | (refine Qi rfl rfl rfl rfl (fun hb K' hK => ?_) (fun hb => ?_) <;> (have hc := hb; try simp only [go_sem] at hc; simp only [go_sem, *]))) | (show Hold ..; first | refine Qh rfl ?_ | refine zAG rfl Tryz.mixed (by kernel_rfl) ?_ | (refine zAD rfl ⟨_, rfl, fun hb => ?_, fun hb => ?_⟩ <;> (have hc := hb; try simp only [go_sem] at hc)) | refine zAI rfl ?_) | (refine Qb ?_ ?_; focus kernel_rfl) | ((with_reducible refine And.intro ?_ ?_); focus omega) | (refine zAB hK ?_; clear hK K'; simp only [go_sem, *]) | (simp only [zAH, zAA, go_sem, *]))
  refine ⟨[_], [some 0], [1], ⟨rfl, trivial⟩, ?_⟩
  simp only [go_sem, *]
end Go.Abs

namespace Go.Abs
open Go Go.Proofs
attribute [local irreducible] zAC Hold zAN
theorem zE4 (d : Dice) (h : Int) : (zCD d h).2.list = d.list := by unfold zCD; rw [zHE, zCj]
theorem zEK (h : Int) : ∀ (n : Nat) (d : Dice) (out : Plan), (zBq h n d out).2.list = d.list
 | 0, d, out => rfl
 | n + 1, d, out => by rw [zBq, zEK h n]; exact zE4 d h
theorem zNl (d : Dice) (h : Int) : (zEG d h).2.list = d.list := by unfold zEG; rw [zEK, zCG]
def StP (houses : Int) (k : Nat) (dd : Dice) (acc : Plan) (R : Plan × Dice) : Prop := zBq houses k dd acc = R ∧ dd.list.length ≤ 4294967296 ∧ acc.length + k ≤ 3
theorem StP.next {houses : Int} {dd : Dice} {k : Nat} {acc : Plan} {R : Plan × Dice} (h : StP houses (k + 1) dd acc R) : StP houses k (zCD dd houses).2 (acc ++ [(zCD dd houses).1]) R := by
 obtain ⟨h1, h2, h3⟩ := h
 exact ⟨h1, by rw [zE4]; exact h2, by simp; omega⟩
theorem zPp (d : Dice) (houses : Int) (h : d.list.length ≤ 4294967296) (hm : houses ≤ 8) :
  Spec Tryz.prog 22 [.ptr 0 0, iV houses] [zA3 d] (zAO (zEG d houses).1) [zA3 (zEG d houses).2] := by
 have st := zDH d 1 3 h (by omega) (by omega)
 have hr := zCU (lo := 1) (hi := 3) (by omega) d
 obtain ⟨n, hn⟩ : ∃ n : Nat, zBs 1 3 d = n := ⟨(zBs 1 3 d).toNat, by omega⟩
 have h0 : StP houses (n - 0) (zA5 1 3 d) [] (zEG d houses) := by
  unfold zEG
  rw [hn]
  exact ⟨by simp, by rw [zCG]; exact h, by simp; omega⟩
 rw [hn] at st hr
 generalize zEG d houses = R at *
 obtain ⟨RL, RD⟩ := R
 clear hn
 generalize zA5 1 3 d = d0 at *
 refine zAF Tryz.func22 rfl (fun E hE => ?_); simp only [go_sem, Tryz.ntmps22]
 repeat' (first | (show zAC ..; first | (refine Qr rfl ?_; try intro K' hK; try simp only [go_sem, *])) | (show Hold ..; first | refine Qh rfl ?_ | refine zAG rfl Tryz.mixed (by kernel_rfl) ?_ | (refine zAD rfl ⟨_, rfl, fun hb => ?_, fun hb => ?_⟩ <;> (have hc := hb; try simp only [go_sem] at hc)) | refine zAI rfl ?_) | (refine Qb ?_ ?_; focus kernel_rfl) | (show zAN ..; first | (refine zAR [0] [] (st) (by simp) ?_ ?_ (by simp) (.inl rfl) ?_ ?_ ?_; (focus (simp only [go_sem, *]; done)); (focus (simp only [go_sem, *]; done)); (focus (first | (simp; done) | (simp [go_sem]; done))); (focus (first | (simp; done) | (simp [go_sem]; done))); simp only [go_sem, *])) | ((with_reducible refine And.intro ?_ ?_); focus omega) | (refine zAB hK ?_; clear hK K'; simp only [go_sem, *]) | (simp only [zAH, zAA, go_sem, *]))
 refine zAQ rfl (fun zn zN zenv zAs => ∃ (i : Nat) (dd : Dice) (acc : Plan), zn = (n) - i ∧ i ≤ (n) ∧ (StP houses (n - i) dd acc (RL, RD)) ∧ zN = 26 ∧ zenv = [(6, iV ((n - i : Nat) : Int)), (5, .ptr 2 0), (4, .ptr 1 0), (1, iV houses), (0, .ptr 0 0)] ∧ zAs = [zA3 dd, .box [nilV], .box [.own 3 1 0 acc.length], .box (acc.map zAM)]) (n) ⟨[some 0, some 1, some 2, none], [], _, _, _, (by (simp only [Weak, go_sem, List.map_append, List.map_set, *] <;> (try simp (disch := omega) only [zAE]) <;> (try simp) <;> (try omega))), 0, d0, [], (by simp), (by simp), (by exact h0), rfl, rfl, rfl⟩ ?_; rintro _ _ _ _ ⟨i, dd, acc, rfl, hi, hP, rfl, rfl, rfl⟩
 clear h0 st
 by_cases hi2 : i < n
 ·obtain ⟨k, hk⟩ : ∃ k, n - i = k + 1 := ⟨n - i - 1, by omega⟩
  have hk2 : n - (i + 1) = k := by omega
  rw [hk] at hP ⊢
  have hnx := hP.next
  have hw1 : IntKind.i64.wrap (((k + 1 : Nat) : Int) - 1) = (k : Int) := by rw [wrap_i64 (by omega) (by omega)]; omega
  have hgt : ((k + 1 : Nat) : Int) > 0 := by omega
  obtain ⟨_, hdl, hal⟩ := hP
  have s2 := zJD dd 3 hdl (by omega)
  have hol : (zCB 3 dd).list.length ≤ 4294967296 := by rw [zCj]; exact hdl
  unfold zCD at hnx
  generalize zCB 3 dd = d2 at *
  by_cases b : zGB 3 dd = true
  ·rw [if_pos b] at hnx
   rw [b] at s2
   clear b
   have s3 := zFs d2 0 hol (by omega)
   generalize zBj d2 0 = L at *
   obtain ⟨l, d3⟩ := L
   have hnx2 : StP houses k d3 (acc ++ [l]) (RL, RD) := hnx
   clear hnx
   simp only at s3
   repeat' (first | (show zAC ..; first | (refine Qr rfl ?_; try intro K' hK; try simp only [go_sem, *])) | (show Hold ..; first | refine Qh rfl ?_ | refine zAG rfl Tryz.mixed (by kernel_rfl) ?_ | (refine zAD rfl ⟨_, rfl, fun hb => ?_, fun hb => ?_⟩ <;> (have hc := hb; try simp only [go_sem] at hc)) | refine zAI rfl ?_) | (refine Qb ?_ ?_; focus kernel_rfl) | (show zAN ..; first | (refine zAR [0] [] (s2) (by simp) ?_ ?_ (by simp) (.inl rfl) ?_ ?_ ?_; (focus (simp only [go_sem, *]; done)); (focus (simp only [go_sem, *]; done)); (focus (first | (simp; done) | (simp [go_sem]; done))); (focus (first | (simp; done) | (simp [go_sem]; done))); simp only [go_sem, *]) | (refine zAR [0] [] (s3) (by simp) ?_ ?_ (by simp) (.inl rfl) ?_ ?_ ?_; (focus (simp only [go_sem, *]; done)); (focus (simp only [go_sem, *]; done)); (focus (first | (simp; done) | (simp [go_sem]; done))); (focus (first | (simp; done) | (simp [go_sem]; done))); simp only [go_sem, *])) | ((with_reducible refine And.intro ?_ ?_); focus omega) | (refine zAB hK ?_; clear hK K'; simp only [go_sem, *]) | (simp only [zAH, zAA, go_sem, *]))
   all_goals first | contradiction | skip
   refine ⟨_, (by omega), [some 0, some 1, some 2, some 5], [], _, _, _, (by (simp only [Weak, go_sem, List.map_append, List.map_set, *] <;> (try simp (disch := omega) only [zAE]) <;> (try simp) <;> (try omega))), i + 1, d3, acc ++ [l], rfl, (by omega), (by rw [hk2]; exact hnx2), rfl, rfl, rfl⟩
  ·rw [if_neg b] at hnx
   rw [Bool.not_eq_true] at b
   rw [b] at s2
   clear b
   have s3 := zFs d2 houses hol hm
   generalize zBj d2 houses = L at *
   obtain ⟨l, d3⟩ := L
   have hnx2 : StP houses k d3 (acc ++ [l]) (RL, RD) := hnx
   clear hnx
   simp only at s3
   repeat' (first | (show zAC ..; first | (refine Qr rfl ?_; try intro K' hK; try simp only [go_sem, *])) | (show Hold ..; first | refine Qh rfl ?_ | refine zAG rfl Tryz.mixed (by kernel_rfl) ?_ | (refine zAD rfl ⟨_, rfl, fun hb => ?_, fun hb => ?_⟩ <;> (have hc := hb; try simp only [go_sem] at hc)) | refine zAI rfl ?_) | (refine Qb ?_ ?_; focus kernel_rfl) | (show zAN ..; first | (refine zAR [0] [] (s2) (by simp) ?_ ?_ (by simp) (.inl rfl) ?_ ?_ ?_; (focus (simp only [go_sem, *]; done)); (focus (simp only [go_sem, *]; done)); (focus (first | (simp; done) | (simp [go_sem]; done))); (focus (first | (simp; done) | (simp [go_sem]; done))); simp only [go_sem, *]) | (refine zAR [0] [] (s3) (by simp) ?_ ?_ (by simp) (.inl rfl) ?_ ?_ ?_; (focus (simp only [go_sem, *]; done)); (focus (simp only [go_sem, *]; done)); (focus (first | (simp; done) | (simp [go_sem]; done))); (focus (first | (simp; done) | (simp [go_sem]; done))); simp only [go_sem, *])) | ((with_reducible refine And.intro ?_ ?_); focus omega) | (refine zAB hK ?_; clear hK K'; simp only [go_sem, *]) | (simp only [zAH, zAA, go_sem, *]))
   all_goals first | contradiction | skip
   refine ⟨_, (by omega), [some 0, some 1, some 2, some 5], [], _, _, _, (by (simp only [Weak, go_sem, List.map_append, List.map_set, *] <;> (try simp (disch := omega) only [zAE]) <;> (try simp) <;> (try omega))), i + 1, d3, acc ++ [l], rfl, (by omega), (by rw [hk2]; exact hnx2), rfl, rfl, rfl⟩
 ·have hni : n - i = 0 := by omega
  rw [hni] at hP ⊢
  obtain ⟨e, _, _⟩ := hP
  rw [zBq] at e
  cases e
  repeat' (first | (show zAC ..; first | (refine Qr rfl ?_; try intro K' hK; try simp only [go_sem, *])) | (show Hold ..; first | refine Qh rfl ?_ | refine zAG rfl Tryz.mixed (by kernel_rfl) ?_ | (refine zAD rfl ⟨_, rfl, fun hb => ?_, fun hb => ?_⟩ <;> (have hc := hb; try simp only [go_sem] at hc)) | refine zAI rfl ?_) | (refine Qb ?_ ?_; focus kernel_rfl) | ((with_reducible refine And.intro ?_ ?_); focus omega) | (refine zAB hK ?_; clear hK K'; simp only [go_sem, *]) | (simp only [zAH, zAA, go_sem, *]))
  refine ⟨[.agg [.own 3 1 0 (List.length RL)]], [some 0], [3], ⟨by simp only [zAY, go_sem], trivial⟩, ?_⟩
  simp only [go_sem, *]
  simp
end Go.Abs

