/-
  WHAT THE PROOF STANDS ON, PART 4: contracts of the program's functions and the logic that they are proved in. No condition.
-/
import Derived.Test.YtmhleaopjcfjnaaGreatQ3
set_option maxRecDepth 100000
set_option maxHeartbeats 4000000
set_option linter.unusedVariables false
set_option linter.unusedSimpArgs false
set_option linter.unusedSectionVars false
namespace Go.Abs
open Go Go.Proofs Tryz
attribute [local irreducible] z3 Hold q7
def j3 (kind : Int) (p : zLI) (s : Nat) : List Change :=
 if kind = 4 then ((List.range p.length).filter (fun o => decide (o ≠ s))).map fun o => ⟨4, s, (o : Nat), zeroPlate, zeroPlate⟩
 else if kind = 5 ∨ kind = 6 then (p.getD s default).map fun x => ⟨kind, s, 0, x, zeroPlate⟩
 else [⟨kind, s, 0, zeroPlate, zeroPlate⟩]
def l2 (kind : Int) (p : zLI) (s : Nat) : List Change := (List.range' s (p.length - s)).flatMap (j3 kind p)
def l3 : Nat → zLI → List Change
 | 0, _ => []
 | m + 1, p => l2 (6 - (m : Nat)) p 0 ++ l3 m p
def u3 (p : zLI) : List Change := l3 6 p
theorem zEq {kind : Int} {p : zLI} {s : Nat} (h : s < p.length) : l2 kind p s = j3 kind p s ++ l2 kind p (s + 1) := by
 unfold l2
 rw [show p.length - s = (p.length - (s + 1)) + 1 by omega, List.range'_succ, List.flatMap_cons]
theorem zEo {kind : Int} {p : zLI} {s : Nat} (h : p.length ≤ s) : l2 kind p s = [] := by
 unfold l2
 rw [show p.length - s = 0 by omega]; rfl
theorem zEn {kind : Int} {p : zLI} (v : Valid p) (s : Nat) : (j3 kind p s).length ≤ 8 := by
 unfold j3
 have := v.len
 have h := (v.row s).len
 unfold z9 at h
 split
 ·simp only [List.length_map]
  have := List.length_filter_le (fun o => decide (o ≠ s)) (List.range p.length)
  simp at this ⊢; omega
 ·split
  ·simpa using h
  ·simp
theorem zEp {kind : Int} {p : zLI} (v : Valid p) (s : Nat) : (l2 kind p s).length ≤ 24 := by
 have key : ∀ n s, ((List.range' s n).flatMap (j3 kind p)).length ≤ n * 8 := by
  intro n
  induction n with
  | zero => intro s; simp
  | succ n ih => intro s; have := ih (s + 1); have := zEn (kind := kind) v s; simp only [List.range'_succ, List.flatMap_cons, List.length_append]; omega
 have := key (p.length - s) s
 have := v.len
 unfold l2; omega
theorem C5 {p : zLI} (v : Valid p) : ∀ m, (l3 m p).length ≤ m * 24
 | 0 => by simp [l3]
 | m + 1 => by
  have := C5 v m
  have := zEp (kind := 6 - (m : Nat)) v 0
  simp only [l3, List.length_append]; omega
def i8 (p : zLI) (s o : Nat) : List Change := ((List.range' o (p.length - o)).filter (fun o => decide (o ≠ s))).map fun o => ⟨4, s, (o : Nat), zeroPlate, zeroPlate⟩
theorem zEm {p : zLI} {s : Nat} : j3 4 p s = i8 p s 0 := by simp [j3, i8, List.range_eq_range']
theorem zFQ {p : zLI} {s o : Nat} (h : o < p.length) (e : o ≠ s) : i8 p s o = ⟨4, s, o, zeroPlate, zeroPlate⟩ :: i8 p s (o + 1) := by
 unfold i8
 rw [show p.length - o = (p.length - (o + 1)) + 1 by omega, List.range'_succ, List.filter_cons, if_pos (by simpa using e), List.map_cons]
theorem zFR {p : zLI} {s o : Nat} (h : o < p.length) (e : o = s) : i8 p s o = i8 p s (o + 1) := by
 unfold i8
 rw [show p.length - o = (p.length - (o + 1)) + 1 by omega, List.range'_succ, List.filter_cons, if_neg (by simpa using e)]
theorem zFP {p : zLI} {s o : Nat} (h : p.length ≤ o) : i8 p s o = [] := by
 unfold i8
 rw [show p.length - o = 0 by omega]; rfl
theorem zEj {kind : Int} {p : zLI} {s : Nat} (h4 : ¬ kind = 4) (h : kind = 5 ∨ kind = 6) : j3 kind p s = (p.getD s default).map fun x => ⟨kind, s, 0, x, zeroPlate⟩ := by
 unfold j3; rw [if_neg h4, if_pos h]
theorem zEk {kind : Int} {p : zLI} {s : Nat} (h4 : ¬ kind = 4) (h : ¬ (kind = 5 ∨ kind = 6)) : j3 kind p s = [⟨kind, s, 0, zeroPlate, zeroPlate⟩] := by
 unfold j3; rw [if_neg h4, if_neg h]
theorem zHF (p : zLI) (v : Valid p) : zLJ prog 131 [y5 p] [] (.list ((u3 p).map Change.enc)) [] := by
 have hp3 := v.len
 have hgl := C5 v 6
 refine y3 func131 rfl (fun E hE => ?_); simp only [go_sem, ntmps131]
 repeat' (first | (show z3 ..; first | (refine Qr rfl ?_; try intro _ hK; try simp only [go_sem, *])) | (show Hold ..; first | refine Qh rfl ?_ | (refine z7 rfl ⟨_, rfl, fun hb => ?_, fun hb => ?_⟩ <;> (have hc := hb; try simp only [go_sem] at hc)) | refine z8 rfl ?_) | ((with_reducible refine And.intro ?_ ?_); focus omega) | (refine z6 hK ?_; clear hK; simp only [go_sem, *]) | (simp only [z5, z4, go_sem, *]))
 refine y8 rfl (fun zn zN zenv zAs => ∃ (m : Nat) (acc : List Change), zn = (6) - m ∧ m ≤ (6) ∧ (acc ++ l3 (6 - m) p = u3 p) ∧ zN = 67 ∧ zenv = [(4, iV ((m : Int) + 1)), (3, .own 1 7 0 acc.length), (1, .ptr 0 0)] ∧ zAs = [zLW p, .row 7 (acc.map Change.enc)]) (6) ⟨[some 0, none], [], _, _, _, (by (simp only [Weak, go_sem, List.map_append, List.map_set, *] <;> (try simp (disch := omega) only [q9]) <;> (try simp) <;> (try omega))), 0, [], (by simp), (by simp), (by rfl), rfl, rfl, rfl⟩ ?_; rintro _ _ _ _ ⟨m, acc, rfl, hm, hP, rfl, rfl, rfl⟩
 have hw : m < 6 → IntKind.i64.wrap ((m : Int) + 1 + 1) = (((m + 1 : Nat) : Int) + 1) := fun h => by rw [wrap_i64 (by omega) (by omega)]; omega
 have hm6 : ((m : Int) + 1 ≤ 6) = (m < 6) := by simp only [eq_iff_iff]; omega
 repeat' (first | (show z3 ..; first | (refine Qr rfl ?_; try intro _ hK; try simp only [go_sem, *])) | (show Hold ..; first | refine Qh rfl ?_ | (refine z7 rfl ⟨_, rfl, fun hb => ?_, fun hb => ?_⟩ <;> (have hc := hb; try simp only [go_sem] at hc)) | refine z8 rfl ?_) | ((with_reducible refine And.intro ?_ ?_); focus omega) | (refine z6 hK ?_; clear hK; simp only [go_sem, *]) | (simp only [z5, z4, go_sem, *]))
 ·have hm : m < 6 := by assumption
  obtain ⟨kk, hkk⟩ : ∃ kk : Int, kk = (m : Int) + 1 := ⟨_, rfl⟩
  have hstep : l3 (6 - m) p = l2 kk p 0 ++ l3 (6 - (m + 1)) p := by
   rw [show 6 - m = (6 - (m + 1)) + 1 by omega, l3, hkk]
   congr 2
   omega
  rw [hstep] at hP
  have hw2 : IntKind.i64.wrap (kk + 1) = ((m + 1 : Nat) : Int) + 1 := by rw [hkk, hw hm]
  clear hw
  rw [← hkk] at *
  clear hstep
  refine y8 rfl (fun zn zN zenv zAs => ∃ (s : Nat) (acc : List Change), zn = (p.length) - s ∧ s ≤ (p.length) ∧ (acc ++ (l2 kk p s ++ l3 (6 - (m + 1)) p) = u3 p) ∧ zN = 67 ∧ zenv = [(17, iV s), (16, iV p.length), (15, .list (p.map y6)), (4, iV kk), (3, .own 1 7 0 acc.length), (1, .ptr 0 0)] ∧ zAs = [zLW p, .row 7 (acc.map Change.enc)]) (p.length) ⟨[some 0, some 1], [], _, _, _, (by (simp only [Weak, go_sem, List.map_append, List.map_set, *] <;> (try simp (disch := omega) only [q9]) <;> (try simp) <;> (try omega))), 0, acc, (by simp), (by simp), (by exact hP), rfl, rfl, rfl⟩ ?_; rintro _ _ _ _ ⟨s, acc, rfl, hs, hQ, rfl, rfl, rfl⟩
  clear hP
  have hqle := congrArg List.length hQ
  simp only [List.length_append] at hqle
  unfold u3 at hqle
  by_cases hs : s < p.length
  ·rw [zEq hs] at hQ
   have hrow : (p.getD s default).length ≤ 8 := (v.rows _ (w6 hs)).len
   by_cases k4 : kk = 4
   ·subst k4
    rw [zEm] at hQ
    repeat' (first | (show z3 ..; first | (refine Qr rfl ?_; try intro _ hK; try simp only [go_sem, *])) | (show Hold ..; first | refine Qh rfl ?_ | (refine z7 rfl ⟨_, rfl, fun hb => ?_, fun hb => ?_⟩ <;> (have hc := hb; try simp only [go_sem] at hc)) | refine z8 rfl ?_) | ((with_reducible refine And.intro ?_ ?_); focus omega) | (refine z6 hK ?_; clear hK; simp only [go_sem, *]) | (simp only [z5, z4, go_sem, *]))
    refine y8 rfl (fun zn zN zenv zAs => ∃ (o : Nat) (acc : List Change), zn = (p.length) - o ∧ o ≤ (p.length) ∧ (acc ++ (i8 p s o ++ l2 4 p (s + 1)) ++ l3 (6 - (m + 1)) p = u3 p) ∧ zN = 67 ∧ zenv = [(34, iV o), (33, iV p.length), (5, iV s), (17, iV s), (16, iV p.length), (15, .list (p.map y6)), (4, iV 4), (3, .own 1 7 0 acc.length), (1, .ptr 0 0)] ∧ zAs = [zLW p, .row 7 (acc.map Change.enc)]) (p.length) ⟨[some 0, some 1], [], _, _, _, (by (simp only [Weak, go_sem, List.map_append, List.map_set, *] <;> (try simp (disch := omega) only [q9]) <;> (try simp) <;> (try omega))), 0, acc, (by simp), (by simp), (by simpa using hQ), rfl, rfl, rfl⟩ ?_; rintro _ _ _ _ ⟨o, acc, rfl, ho, hR, rfl, rfl, rfl⟩
    clear hQ hqle
    have hqle := congrArg List.length hR
    simp only [List.length_append] at hqle
    unfold u3 at hqle
    repeat' (first | (show z3 ..; first | (refine Qr rfl ?_; try intro _ hK; try simp only [go_sem, *])) | (show Hold ..; first | refine Qh rfl ?_ | (refine z7 rfl ⟨_, rfl, fun hb => ?_, fun hb => ?_⟩ <;> (have hc := hb; try simp only [go_sem] at hc)) | refine z8 rfl ?_) | ((with_reducible refine And.intro ?_ ?_); focus omega) | (refine z6 hK ?_; clear hK; simp only [go_sem, *]) | (simp only [z5, z4, go_sem, *]))
    ·refine ⟨_, (by omega), [some 0, some 3], [], _, _, _, (by (simp only [Weak, go_sem, List.map_append, List.map_set, *] <;> (try simp (disch := omega) only [q9]) <;> (try simp) <;> (try omega))), o + 1, acc ++ [⟨4, s, o, zeroPlate, zeroPlate⟩], rfl, (by omega), (by rw [← hR, zFQ (o := o) (by assumption) (by omega)]; simp), rfl, rfl, rfl⟩
    ·refine ⟨_, (by omega), [some 0, some 1], [], _, _, _, (by (simp only [Weak, go_sem, List.map_append, List.map_set, *] <;> (try simp (disch := omega) only [q9]) <;> (try simp) <;> (try omega))), o + 1, acc, rfl, (by omega), (by rw [← hR, zFR (o := o) (by assumption) (by omega)]), rfl, rfl, rfl⟩
    ·rw [zFP (by omega), List.nil_append] at hR
     refine ⟨_, (by omega), [some 0, some 1], [], _, _, _, (by (simp only [Weak, go_sem, List.map_append, List.map_set, *] <;> (try simp (disch := omega) only [q9]) <;> (try simp) <;> (try omega))), s + 1, acc, rfl, (by omega), (by simpa using hR), rfl, rfl, rfl⟩
   ·by_cases k5 : kk = 5 ∨ kk = 6
    ·rw [zEj k4 k5] at hQ
     generalize hll : p.getD s default = l at *
     have hd : (kk == 4) = false := by simpa using k4
     rcases k5 with k5 | k5
     ·have h5 : (kk == 5) = true := by simp [k5]
      clear k5
      repeat' (first | (show z3 ..; first | (refine Qr rfl ?_; try intro _ hK; try simp only [go_sem, *])) | (show Hold ..; first | refine Qh rfl ?_ | (refine z7 rfl ⟨_, rfl, fun hb => ?_, fun hb => ?_⟩ <;> (have hc := hb; try simp only [go_sem] at hc)) | refine z8 rfl ?_) | ((with_reducible refine And.intro ?_ ?_); focus omega) | (refine z6 hK ?_; clear hK; simp only [go_sem, *]) | (simp only [z5, z4, go_sem, *]))
      refine y8 rfl (fun zn zN zenv zAs => ∃ (o : Nat) (acc : List Change), zn = (l.length) - o ∧ o ≤ (l.length) ∧ (acc ++ ((l.drop o).map (fun x => (⟨kk, s, 0, x, zeroPlate⟩ : Change)) ++ l2 kk p (s + 1)) ++ l3 (6 - (m + 1)) p = u3 p) ∧ zN = 67 ∧ zenv = [(53, iV o), (52, iV l.length), (51, y6 l), (5, iV s), (17, iV s), (16, iV p.length), (15, .list (p.map y6)), (4, iV kk), (3, .own 1 7 0 acc.length), (1, .ptr 0 0)] ∧ zAs = [zLW p, .row 7 (acc.map Change.enc)]) (l.length) ⟨[some 0, some 1], [], _, _, _, (by (simp only [Weak, go_sem, List.map_append, List.map_set, *] <;> (try simp (disch := omega) only [q9]) <;> (try simp) <;> (try omega))), 0, acc, (by simp), (by simp), (by simpa using hQ), rfl, rfl, rfl⟩ ?_; rintro _ _ _ _ ⟨o, acc, rfl, ho, hR, rfl, rfl, rfl⟩
      clear hQ hqle
      have hqle := congrArg List.length hR
      simp only [List.length_append] at hqle
      unfold u3 at hqle
      repeat' (first | (show z3 ..; first | (refine Qr rfl ?_; try intro _ hK; try simp only [go_sem, *])) | (show Hold ..; first | refine Qh rfl ?_ | (refine z7 rfl ⟨_, rfl, fun hb => ?_, fun hb => ?_⟩ <;> (have hc := hb; try simp only [go_sem] at hc)) | refine z8 rfl ?_) | ((with_reducible refine And.intro ?_ ?_); focus omega) | (refine z6 hK ?_; clear hK; simp only [go_sem, *]) | (simp only [z5, z4, go_sem, *]))
      ·have ed : l.drop o = l.getD o default :: l.drop (o + 1) := v3 (by assumption)
       refine ⟨_, (by omega), [some 0, some 4], [], _, _, _, (by (simp only [Weak, go_sem, List.map_append, List.map_set, *] <;> (try simp (disch := omega) only [q9]) <;> (try simp) <;> (try omega))), o + 1, acc ++ [⟨kk, s, 0, l.getD o default, zeroPlate⟩], rfl, (by omega), (by rw [← hR, ed]; simp), rfl, rfl, rfl⟩
      ·rw [v4 (by omega), List.map_nil, List.nil_append] at hR
       refine ⟨_, (by omega), [some 0, some 1], [], _, _, _, (by (simp only [Weak, go_sem, List.map_append, List.map_set, *] <;> (try simp (disch := omega) only [q9]) <;> (try simp) <;> (try omega))), s + 1, acc, rfl, (by omega), (by simpa using hR), rfl, rfl, rfl⟩
     ·have h5 : (kk == 5) = false := by simp [k5]
      have h6 : (kk == 6) = true := by simp [k5]
      clear k5
      repeat' (first | (show z3 ..; first | (refine Qr rfl ?_; try intro _ hK; try simp only [go_sem, *])) | (show Hold ..; first | refine Qh rfl ?_ | (refine z7 rfl ⟨_, rfl, fun hb => ?_, fun hb => ?_⟩ <;> (have hc := hb; try simp only [go_sem] at hc)) | refine z8 rfl ?_) | ((with_reducible refine And.intro ?_ ?_); focus omega) | (refine z6 hK ?_; clear hK; simp only [go_sem, *]) | (simp only [z5, z4, go_sem, *]))
      refine y8 rfl (fun zn zN zenv zAs => ∃ (o : Nat) (acc : List Change), zn = (l.length) - o ∧ o ≤ (l.length) ∧ (acc ++ ((l.drop o).map (fun x => (⟨kk, s, 0, x, zeroPlate⟩ : Change)) ++ l2 kk p (s + 1)) ++ l3 (6 - (m + 1)) p = u3 p) ∧ zN = 67 ∧ zenv = [(53, iV o), (52, iV l.length), (51, y6 l), (5, iV s), (17, iV s), (16, iV p.length), (15, .list (p.map y6)), (4, iV kk), (3, .own 1 7 0 acc.length), (1, .ptr 0 0)] ∧ zAs = [zLW p, .row 7 (acc.map Change.enc)]) (l.length) ⟨[some 0, some 1], [], _, _, _, (by (simp only [Weak, go_sem, List.map_append, List.map_set, *] <;> (try simp (disch := omega) only [q9]) <;> (try simp) <;> (try omega))), 0, acc, (by simp), (by simp), (by simpa using hQ), rfl, rfl, rfl⟩ ?_; rintro _ _ _ _ ⟨o, acc, rfl, ho, hR, rfl, rfl, rfl⟩
      clear hQ hqle
      have hqle := congrArg List.length hR
      simp only [List.length_append] at hqle
      unfold u3 at hqle
      repeat' (first | (show z3 ..; first | (refine Qr rfl ?_; try intro _ hK; try simp only [go_sem, *])) | (show Hold ..; first | refine Qh rfl ?_ | (refine z7 rfl ⟨_, rfl, fun hb => ?_, fun hb => ?_⟩ <;> (have hc := hb; try simp only [go_sem] at hc)) | refine z8 rfl ?_) | ((with_reducible refine And.intro ?_ ?_); focus omega) | (refine z6 hK ?_; clear hK; simp only [go_sem, *]) | (simp only [z5, z4, go_sem, *]))
      ·have ed : l.drop o = l.getD o default :: l.drop (o + 1) := v3 (by assumption)
       refine ⟨_, (by omega), [some 0, some 4], [], _, _, _, (by (simp only [Weak, go_sem, List.map_append, List.map_set, *] <;> (try simp (disch := omega) only [q9]) <;> (try simp) <;> (try omega))), o + 1, acc ++ [⟨kk, s, 0, l.getD o default, zeroPlate⟩], rfl, (by omega), (by rw [← hR, ed]; simp), rfl, rfl, rfl⟩
      ·rw [v4 (by omega), List.map_nil, List.nil_append] at hR
       refine ⟨_, (by omega), [some 0, some 1], [], _, _, _, (by (simp only [Weak, go_sem, List.map_append, List.map_set, *] <;> (try simp (disch := omega) only [q9]) <;> (try simp) <;> (try omega))), s + 1, acc, rfl, (by omega), (by simpa using hR), rfl, rfl, rfl⟩
    ·rw [zEk k4 k5] at hQ
     have h4 : (kk == 4) = false := by simpa using k4
     have h5 : (kk == 5) = false := by simp only [not_or] at k5; simpa using k5.1
     have h6 : (kk == 6) = false := by simp only [not_or] at k5; simpa using k5.2
     repeat' (first | (show z3 ..; first | (refine Qr rfl ?_; try intro _ hK; try simp only [go_sem, *])) | (show Hold ..; first | refine Qh rfl ?_ | (refine z7 rfl ⟨_, rfl, fun hb => ?_, fun hb => ?_⟩ <;> (have hc := hb; try simp only [go_sem] at hc)) | refine z8 rfl ?_) | ((with_reducible refine And.intro ?_ ?_); focus omega) | (refine z6 hK ?_; clear hK; simp only [go_sem, *]) | (simp only [z5, z4, go_sem, *]))
     refine ⟨_, (by omega), [some 0, some 3], [], _, _, _, (by (simp only [Weak, go_sem, List.map_append, List.map_set, *] <;> (try simp (disch := omega) only [q9]) <;> (try simp) <;> (try omega))), s + 1, acc ++ [⟨kk, s, 0, zeroPlate, zeroPlate⟩], rfl, (by omega), (by simpa using hQ), rfl, rfl, rfl⟩
  ·repeat' (first | (show z3 ..; first | (refine Qr rfl ?_; try intro _ hK; try simp only [go_sem, *])) | (show Hold ..; first | refine Qh rfl ?_ | (refine z7 rfl ⟨_, rfl, fun hb => ?_, fun hb => ?_⟩ <;> (have hc := hb; try simp only [go_sem] at hc)) | refine z8 rfl ?_) | ((with_reducible refine And.intro ?_ ?_); focus omega) | (refine z6 hK ?_; clear hK; simp only [go_sem, *]) | (simp only [z5, z4, go_sem, *]))
   rw [zEo (by omega), List.nil_append] at hQ
   refine ⟨_, (by omega), [some 0, some 1], [], _, _, _, (by (simp only [Weak, go_sem, List.map_append, List.map_set, *] <;> (try simp (disch := omega) only [q9]) <;> (try simp) <;> (try omega))), m + 1, acc, rfl, (by omega), (by exact hQ), rfl, rfl, rfl⟩
 ·refine ⟨[_], [], [1], ⟨rfl, trivial⟩, ?_⟩
  have h6 : 6 - m = 0 := by omega
  rw [h6] at hP
  simp only [l3, List.append_nil] at hP
  simp only [go_sem, hP, *]
  simp
end Go.Abs

namespace Go.Abs
open Go Go.Proofs Tryz
attribute [local irreducible] z3 Hold q7
theorem D3 {α β : Type} (f : α → List β) (p : β → Bool) : ∀ l : List α, (l.flatMap f).filter p = l.flatMap fun a => (f a).filter p
 | [] => rfl
 | a :: r => by simp only [List.flatMap_cons, List.filter_append, D3 f p r]
theorem D7 {α β : Type} {f g : α → List β} : ∀ {l : List α}, (∀ a, a ∈ l → f a = g a) → l.flatMap f = l.flatMap g
 | [], _ => rfl
 | a :: r, h => by
  have e1 := h a (by simp)
  have e2 := D7 (l := r) (fun b hb => h b (by simp [hb]))
  rw [List.flatMap_cons, List.flatMap_cons, e1, e2]
theorem zDR {p : zLI} {s : Int} : can p ⟨4, s, s, zeroPlate, zeroPlate⟩ ≠ 0 := by
 unfold can
 simp only
 split
 ·omega
 split
 ·omega
 split
 ·omega
 rw [if_pos (by simp)]; omega
theorem zEl (kind : Int) (p : zLI) (s : Nat) : (j3 kind p s).filter (fun c => decide (can p c = 0)) = (E6 kind p s).filter (fun c => decide (can p c = 0)) := by
 unfold j3 E6
 split
 ·rw [List.filter_map, List.filter_map, List.filter_filter]
  congr 1
  refine List.filter_congr (fun o _ => ?_)
  simp only [Function.comp]
  by_cases e : o = s
  ·subst e
   have := @zDR p (o : Int)
   simp [this]
  ·simp [e]
 ·rfl
theorem zEr (p : zLI) : u3 p = ([1, 2, 3, 4, 5, 6] : List Int).flatMap fun k => l2 k p 0 := by
 simp [u3, l3]
theorem zDT (p : zLI) : E7 p = (u3 p).filter (fun c => decide (can p c = 0)) := by
 rw [zEr, D3]
 unfold E7
 refine D7 (fun k _ => ?_)
 unfold l2
 rw [D3, Nat.sub_zero, ← List.range_eq_range']
 exact D7 (fun s _ => (zEl k p s).symm)
theorem zA9 {α β : Type} {f : α → Option β} : ∀ {l : List α} {b : β}, o8 f l = some b → ∃ a, a ∈ l ∧ f a = some b
 | [], _, h => by simp [o8] at h
 | a :: r, b, h => by
  rw [o8] at h
  cases e : f a with
  | some x => rw [e] at h; simp only [Option.some.injEq] at h; subst h; exact ⟨a, by simp, e⟩
  | none =>
   rw [e] at h
   obtain ⟨c, hc1, hc2⟩ := zA9 h
   exact ⟨c, by simp [hc1], hc2⟩
theorem zBO : ∀ {n : Nat} {p q : zLI} {l : List Change}, t6 n p q = some l → l.length ≤ n
 | 0, p, q, l, h => by
  unfold t6 at h
  split at h
  ·simp at h; subst h; simp
  ·simp at h
 | n + 1, p, q, l, h => by
  rw [t6] at h
  obtain ⟨c, _, h2⟩ := zA9 h
  cases e : t6 n (u4 p c) q with
  | none => rw [e] at h2; simp at h2
  | some r =>
   rw [e] at h2
   simp at h2
   subst h2
   have := zBO e
   simp; omega
def zL3 (o : Option (List Change)) : List Change := o.getD []
@[go_sem] theorem zKV (l : List Change) : zL3 (some l) = l := rfl
@[go_sem] theorem zKU : zL3 none = [] := rfl
theorem zCX : ∀ (n : Nat), n ≤ 2 → ∀ (p q : zLI), Valid p → zLJ prog 96 [y5 p, y5 q, iV n] [] (.tup [.list ((zL3 (t6 n p q)).map Change.enc), bV (t6 n p q).isSome]) []
 | 0, _, p, q, v => by
  have e1 : (t6 0 p q).isSome = decide (p = q) := by unfold t6; split <;> simp [*]
  have e2 : zL3 (t6 0 p q) = [] := by unfold t6; split <;> rfl
  refine y3 func96 rfl (fun E hE => ?_); simp only [go_sem, ntmps96]
  repeat' (first | (show z3 ..; first | (refine Qr rfl ?_; try intro _ hK; try simp only [go_sem, *])) | (show Hold ..; first | refine Qh rfl ?_ | refine q6 rfl mixed (by kernel_rfl) ?_ | (refine z7 rfl ⟨_, rfl, fun hb => ?_, fun hb => ?_⟩ <;> (have hc := hb; try simp only [go_sem] at hc)) | refine z8 rfl ?_) | (refine Qb ?_ ?_; focus kernel_rfl) | (show q7 ..; first | (refine q8 (zHc p q (by have := v.len; omega) (fun l hl => by have := (v.rows l hl).len; omega)) ?_ ?_; (focus (simp only [go_sem, *]; done)); simp only [go_sem, *])) | ((with_reducible refine And.intro ?_ ?_); focus omega) | (refine z6 hK ?_; clear hK; simp only [go_sem, *]) | (simp only [z5, z4, go_sem, *]))
  (refine ⟨[_, _], [], [], ⟨rfl, rfl, trivial⟩, ?_⟩; simp only [go_sem, *])
 | n + 1, hn, p, q, v => by
  have IH := zCX n (by omega)
  have hw : IntKind.i64.wrap (((n + 1 : Nat) : Int) - 1) = (n : Int) := by rw [wrap_i64 (by omega) (by omega)]; omega
  have hn0 : (((n + 1 : Nat) : Int) == 0) = false := by simp; omega
  have hgl := C5 v 6
  have hglL : (u3 p).length ≤ 144 := hgl
  have hG : t6 (n + 1) p q = o8 (fun c => (t6 n (u4 p c) q).map (c :: ·)) ((u3 p).filter (fun c => decide (can p c = 0))) := by
   rw [t6, zDT]
  obtain ⟨G, hGe⟩ : ∃ G, G = t6 (n + 1) p q := ⟨_, rfl⟩
  rw [← hGe] at hG ⊢
  clear hGe
  have hG0 : o8 (fun c => (t6 n (u4 p c) q).map (c :: ·)) (((u3 p).drop 0).filter (fun c => decide (can p c = 0))) = G := hG.symm
  clear hG
  refine y3 func96 rfl (fun E hE => ?_); simp only [go_sem, ntmps96]
  repeat' (first | (show z3 ..; first | (refine Qr rfl ?_; try intro _ hK; try simp only [go_sem, *])) | (show Hold ..; first | refine Qh rfl ?_ | refine q6 rfl mixed (by kernel_rfl) ?_ | (refine z7 rfl ⟨_, rfl, fun hb => ?_, fun hb => ?_⟩ <;> (have hc := hb; try simp only [go_sem] at hc)) | refine z8 rfl ?_) | (refine Qb ?_ ?_; focus kernel_rfl) | (show q7 ..; first | (refine q8 (zHF p v) ?_ ?_; (focus (simp only [go_sem, *]; done)); simp only [go_sem, *])) | ((with_reducible refine And.intro ?_ ?_); focus omega) | (refine z6 hK ?_; clear hK; simp only [go_sem, *]) | (simp only [z5, z4, go_sem, *]))
  refine y8 rfl (fun zn zN zenv zAs => ∃ (i : Nat), zn = ((u3 p).length) - i ∧ i ≤ ((u3 p).length) ∧ (o8 (fun c => (t6 n (u4 p c) q).map (c :: ·)) (((u3 p).drop i).filter (fun c => decide (can p c = 0))) = G) ∧ zN = 52 ∧ zenv = [(22, iV i), (21, iV (u3 p).length), (20, .list ((u3 p).map Change.enc)), (2, iV (n + 1 : Nat)), (3, .ptr 0 0), (4, .ptr 1 0)] ∧ zAs = [zLW p, zLW q]) ((u3 p).length) ⟨[some 0, some 1], [], _, _, _, (by (simp only [Weak, go_sem, List.map_append, List.map_set, *] <;> (try simp (disch := omega) only [q9]) <;> (try simp) <;> (try omega))), 0, (by simp), (by simp), (by exact hG0), rfl, rfl, rfl⟩ ?_; rintro _ _ _ _ ⟨i, rfl, hi, hP, rfl, rfl, rfl⟩
  by_cases hi2 : i < (u3 p).length
  ·obtain ⟨s1, s2⟩ := zAO p ((u3 p).getD i default) v
   rw [v3 hi2] at hP
   by_cases hcan : can p ((u3 p).getD i default) = 0
   ·have s := s2 hcan
    have f := Fit.of_can hcan
    have sa := zAM p _ v f
    have sr := IH (u4 p ((u3 p).getD i default)) q (zCu v f)
    rw [List.filter_cons, if_pos (by simpa using hcan)] at hP
    clear s1 s2 hcan IH
    repeat' (first | (show z3 ..; first | (refine Qr rfl ?_; try intro _ hK; try simp only [go_sem, *])) | (show Hold ..; first | refine Qh rfl ?_ | refine q6 rfl mixed (by kernel_rfl) ?_ | (refine z7 rfl ⟨_, rfl, fun hb => ?_, fun hb => ?_⟩ <;> (have hc := hb; try simp only [go_sem] at hc)) | refine z8 rfl ?_) | (refine Qb ?_ ?_; focus kernel_rfl) | (show q7 ..; first | (refine v5 (s) ?_ ?_ ?_ ?_; (focus (simp only [go_sem, *]; done)); (focus (first | (simp; done) | (simp [go_sem]; done))); (focus (first | (simp; done) | (simp [go_sem]; done))); simp only [go_sem, *])) | ((with_reducible refine And.intro ?_ ?_); focus omega) | (refine z6 hK ?_; clear hK; simp only [go_sem, *]) | (simp only [z5, z4, go_sem, *]))
    refine r6 (gone := [3]) sa (by simp only [go_sem]) (by simp only [go_sem]) (by simp only [go_sem]) (by simp) (by simp) ?_
    simp only [go_sem, w9]
    cases hgn : t6 n (u4 p ((u3 p).getD i default)) q with
    | none =>
     rw [hgn] at sr
     rw [o8, hgn] at hP
     simp only [Option.map_none] at hP
     repeat' (first | (show z3 ..; first | (refine Qr rfl ?_; try intro _ hK; try simp only [go_sem, *])) | (show Hold ..; first | refine Qh rfl ?_ | refine q6 rfl mixed (by kernel_rfl) ?_ | (refine z7 rfl ⟨_, rfl, fun hb => ?_, fun hb => ?_⟩ <;> (have hc := hb; try simp only [go_sem] at hc)) | refine z8 rfl ?_) | (refine Qb ?_ ?_; focus kernel_rfl) | (show q7 ..; first | (refine q8 (sr) ?_ ?_; (focus (simp only [go_sem, *]; done)); simp only [go_sem, *])) | ((with_reducible refine And.intro ?_ ?_); focus omega) | (refine z6 hK ?_; clear hK; simp only [go_sem, *]) | (simp only [z5, z4, go_sem, *]))
     all_goals try contradiction
     refine ⟨_, (by omega), [some 0, some 1], [], _, _, _, (by (simp only [Weak, go_sem, List.map_append, List.map_set, *] <;> (try simp (disch := omega) only [q9]) <;> (try simp) <;> (try omega))), i + 1, rfl, (by omega), (by exact hP), rfl, rfl, rfl⟩
    | some l =>
     rw [hgn] at sr
     rw [o8, hgn] at hP
     simp only [Option.map_some] at hP
     have hll := zBO hgn
     subst hP
     repeat' (first | (show z3 ..; first | (refine Qr rfl ?_; try intro _ hK; try simp only [go_sem, *])) | (show Hold ..; first | refine Qh rfl ?_ | refine q6 rfl mixed (by kernel_rfl) ?_ | (refine z7 rfl ⟨_, rfl, fun hb => ?_, fun hb => ?_⟩ <;> (have hc := hb; try simp only [go_sem] at hc)) | refine z8 rfl ?_) | (refine Qb ?_ ?_; focus kernel_rfl) | (show q7 ..; first | (refine q8 (sr) ?_ ?_; (focus (simp only [go_sem, *]; done)); simp only [go_sem, *])) | ((with_reducible refine And.intro ?_ ?_); focus omega) | (refine z6 hK ?_; clear hK; simp only [go_sem, *]) | (simp only [z5, z4, go_sem, *]))
     all_goals try contradiction
     refine ⟨fun y hy => ?_, fun y hy => ?_, by omega, Nat.le_trans (by omega) (by decide : 3 ≤ 9223372036854775807), ?_⟩
     ·obtain ⟨c, _, rfl⟩ := List.mem_map.1 hy
      simp [Change.enc, go_sem]
     ·obtain ⟨c, _, rfl⟩ := List.mem_map.1 hy
      simp [Change.enc, go_sem]
     ·repeat' (first | (show z3 ..; first | (refine Qr rfl ?_; try intro _ hK; try simp only [go_sem, *])) | (show Hold ..; first | refine Qh rfl ?_ | refine q6 rfl mixed (by kernel_rfl) ?_ | (refine z7 rfl ⟨_, rfl, fun hb => ?_, fun hb => ?_⟩ <;> (have hc := hb; try simp only [go_sem] at hc)) | refine z8 rfl ?_) | (refine Qb ?_ ?_; focus kernel_rfl) | ((with_reducible refine And.intro ?_ ?_); focus omega) | (refine z6 hK ?_; clear hK; simp only [go_sem, *]) | (simp only [z5, z4, go_sem, *]))
      refine ⟨[_, _], [], [5], ⟨rfl, rfl, trivial⟩, ?_⟩
      simp only [go_sem, *]
      simp [Nat.add_comm, Change.enc, List.take_of_length_le]
   ·have s := s1 hcan
    rw [List.filter_cons, if_neg (by simpa using hcan)] at hP
    clear s1 s2 IH
    repeat' (first | (show z3 ..; first | (refine Qr rfl ?_; try intro _ hK; try simp only [go_sem, *])) | (show Hold ..; first | refine Qh rfl ?_ | refine q6 rfl mixed (by kernel_rfl) ?_ | (refine z7 rfl ⟨_, rfl, fun hb => ?_, fun hb => ?_⟩ <;> (have hc := hb; try simp only [go_sem] at hc)) | refine z8 rfl ?_) | (refine Qb ?_ ?_; focus kernel_rfl) | (show q7 ..; first | (refine q8 (s) ?_ ?_; (focus (simp only [go_sem, *]; done)); simp only [go_sem, *])) | ((with_reducible refine And.intro ?_ ?_); focus omega) | (refine z6 hK ?_; clear hK; simp only [go_sem, *]) | (simp only [z5, z4, go_sem, *]))
    all_goals try contradiction
    refine ⟨_, (by omega), [some 0, some 1], [], _, _, _, (by (simp only [Weak, go_sem, List.map_append, List.map_set, *] <;> (try simp (disch := omega) only [q9]) <;> (try simp) <;> (try omega))), i + 1, rfl, (by omega), (by exact hP), rfl, rfl, rfl⟩
  ·rw [v4 (by omega), List.filter_nil, o8] at hP
   subst hP
   repeat' (first | (show z3 ..; first | (refine Qr rfl ?_; try intro _ hK; try simp only [go_sem, *])) | (show Hold ..; first | refine Qh rfl ?_ | refine q6 rfl mixed (by kernel_rfl) ?_ | (refine z7 rfl ⟨_, rfl, fun hb => ?_, fun hb => ?_⟩ <;> (have hc := hb; try simp only [go_sem] at hc)) | refine z8 rfl ?_) | (refine Qb ?_ ?_; focus kernel_rfl) | ((with_reducible refine And.intro ?_ ?_); focus omega) | (refine z6 hK ?_; clear hK; simp only [go_sem, *]) | (simp only [z5, z4, go_sem, *]))
   (refine ⟨[_, _], [], [], ⟨rfl, rfl, trivial⟩, ?_⟩; simp only [go_sem, *])
   all_goals simp
def i7 (p q : zLI) : Int :=
 if check p = 0 then if check q = 0 then if p.length = q.length then if (S6 p q).isSome then 0 else 11 else 11 else check q else check p
theorem zGw (p q : zLI) (h1 : check p = 0) (h2 : check q = 0) (h3 : p.length = q.length) (G : Option (List Change)) (hG : o8 (fun n => t6 n p q) ([0, 1, 2].drop 0) = G) :
  zLJ prog 31 [y5 p, y5 q] [] (.tup [.list ((zL3 G).map Change.enc), iV (if G.isSome = true then 0 else 11)]) [] := by
 have v := (T8 p).1 h1
 have w := (T8 q).1 h2
 have s1 := e8 p (by have := v.len; omega)
 have s2 := e8 q (by have := w.len; omega)
 have s3 := fun n hn => zCX n hn p q v
 rw [h1] at s1
 rw [h2] at s2
 clear h1 h2 w
 refine y3 func31 rfl (fun E hE => ?_); simp only [go_sem, ntmps31]
 repeat' (first | (show z3 ..; first | (refine Qr rfl ?_; try intro _ hK; try simp only [go_sem, *])) | (show Hold ..; first | refine Qh rfl ?_ | (refine z7 rfl ⟨_, rfl, fun hb => ?_, fun hb => ?_⟩ <;> (have hc := hb; try simp only [go_sem] at hc)) | refine z8 rfl ?_) | (show q7 ..; first | ((first | refine q8 (s1) ?_ ?_ | refine q8 (s2) ?_ ?_); (focus (simp only [go_sem, *]; done)); simp only [go_sem, *])) | ((with_reducible refine And.intro ?_ ?_); focus omega) | (refine z6 hK ?_; clear hK; simp only [go_sem, *]) | (simp only [z5, z4, go_sem, *]))
 refine y8 rfl (fun zn zN zenv zAs => ∃ (i : Nat), zn = (3) - i ∧ i ≤ (3) ∧ (o8 (fun n => t6 n p q) ([0, 1, 2].drop i) = G) ∧ zN = 41 ∧ zenv = [(28, iV i), (2, .ptr 0 0), (3, .ptr 1 0)] ∧ zAs = [zLW p, zLW q]) (3) ⟨[some 0, some 1], [], _, _, _, (by (simp only [Weak, go_sem, List.map_append, List.map_set, *] <;> (try simp (disch := omega) only [q9]) <;> (try simp) <;> (try omega))), 0, (by simp), (by simp), (by exact hG), rfl, rfl, rfl⟩ ?_; rintro _ _ _ _ ⟨i, rfl, hi, hP, rfl, rfl, rfl⟩
 by_cases hi2 : i < 3
 ·have s := s3 i (by omega)
  have hi3 : (i : Int) < 3 := by omega
  have hd : ([0, 1, 2] : List Nat).drop i = i :: [0, 1, 2].drop (i + 1) := by
   match i, hi2 with
   | 0, _ => rfl
   | 1, _ => rfl
   | 2, _ => rfl
  rw [hd, o8] at hP
  cases hgn : t6 i p q with
  | none =>
   rw [hgn] at s hP
   simp only at hP
   repeat' (first | (show z3 ..; first | (refine Qr rfl ?_; try intro _ hK; try simp only [go_sem, *])) | (show Hold ..; first | refine Qh rfl ?_ | (refine z7 rfl ⟨_, rfl, fun hb => ?_, fun hb => ?_⟩ <;> (have hc := hb; try simp only [go_sem] at hc)) | refine z8 rfl ?_) | (show q7 ..; first | (refine q8 (s) ?_ ?_; (focus (simp only [go_sem, *]; done)); simp only [go_sem, *])) | ((with_reducible refine And.intro ?_ ?_); focus omega) | (refine z6 hK ?_; clear hK; simp only [go_sem, *]) | (simp only [z5, z4, go_sem, *]))
   all_goals try contradiction
   refine ⟨_, (by omega), [some 0, some 1], [], _, _, _, (by (simp only [Weak, go_sem, List.map_append, List.map_set, *] <;> (try simp (disch := omega) only [q9]) <;> (try simp) <;> (try omega))), i + 1, rfl, (by omega), (by exact hP), rfl, rfl, rfl⟩
  | some l =>
   rw [hgn] at s hP
   simp only at hP
   subst hP
   repeat' (first | (show z3 ..; first | (refine Qr rfl ?_; try intro _ hK; try simp only [go_sem, *])) | (show Hold ..; first | refine Qh rfl ?_ | (refine z7 rfl ⟨_, rfl, fun hb => ?_, fun hb => ?_⟩ <;> (have hc := hb; try simp only [go_sem] at hc)) | refine z8 rfl ?_) | (show q7 ..; first | (refine q8 (s) ?_ ?_; (focus (simp only [go_sem, *]; done)); simp only [go_sem, *])) | ((with_reducible refine And.intro ?_ ?_); focus omega) | (refine z6 hK ?_; clear hK; simp only [go_sem, *]) | (simp only [z5, z4, go_sem, *]))
   all_goals try contradiction
   (refine ⟨[_, _], [], [], ⟨rfl, rfl, trivial⟩, ?_⟩; simp only [go_sem, *])
 ·have hi3 : ¬ (i : Int) < 3 := by omega
  rw [show ([0, 1, 2] : List Nat).drop i = [] from List.drop_of_length_le (by simp; omega), o8] at hP
  subst hP
  repeat' (first | (show z3 ..; first | (refine Qr rfl ?_; try intro _ hK; try simp only [go_sem, *])) | (show Hold ..; first | refine Qh rfl ?_ | (refine z7 rfl ⟨_, rfl, fun hb => ?_, fun hb => ?_⟩ <;> (have hc := hb; try simp only [go_sem] at hc)) | refine z8 rfl ?_) | ((with_reducible refine And.intro ?_ ?_); focus omega) | (refine z6 hK ?_; clear hK; simp only [go_sem, *]) | (simp only [z5, z4, go_sem, *]))
  (refine ⟨[_, _], [], [], ⟨rfl, rfl, trivial⟩, ?_⟩; simp only [go_sem, *])
  all_goals simp
theorem zGv (p q : zLI) (hp : p.length ≤ 4294967296) (hq : q.length ≤ 4294967296) :
  zLJ prog 31 [y5 p, y5 q] [] (.tup [.list ((zL3 (if i7 p q = 0 then S6 p q else none)).map Change.enc), iV (i7 p q)]) [] := by
 by_cases h1 : check p = 0
 ·by_cases h2 : check q = 0
  ·by_cases h3 : p.length = q.length
   ·have s := zGw p q h1 h2 h3 (S6 p q) rfl
    have e : i7 p q = if (S6 p q).isSome = true then 0 else 11 := by simp [i7, h1, h2, h3]
    rw [e]
    cases hg : S6 p q with
    | none => rw [hg] at s; simpa using s
    | some l => rw [hg] at s; simpa using s
   ·have e : i7 p q = 11 := by simp [i7, h1, h2, h3]
    have s1 := e8 p hp
    have s2 := e8 q hq
    rw [h1] at s1
    rw [h2] at s2
    rw [e, if_neg (by decide)]
    have h4 : ((p.length : Int) == (q.length : Int)) = false := by simp; omega
    clear h1 h2
    refine y3 func31 rfl (fun E hE => ?_); simp only [go_sem, ntmps31]
    repeat' (first | (show z3 ..; first | (refine Qr rfl ?_; try intro _ hK; try simp only [go_sem, *])) | (show Hold ..; first | refine Qh rfl ?_ | (refine z7 rfl ⟨_, rfl, fun hb => ?_, fun hb => ?_⟩ <;> (have hc := hb; try simp only [go_sem] at hc)) | refine z8 rfl ?_) | (show q7 ..; first | ((first | refine q8 (s1) ?_ ?_ | refine q8 (s2) ?_ ?_); (focus (simp only [go_sem, *]; done)); simp only [go_sem, *])) | ((with_reducible refine And.intro ?_ ?_); focus omega) | (refine z6 hK ?_; clear hK; simp only [go_sem, *]) | (simp only [z5, z4, go_sem, *]))
    all_goals try contradiction
    all_goals (refine ⟨[_, _], [], [], ⟨rfl, rfl, trivial⟩, ?_⟩; simp only [go_sem, *])
  ·have e : i7 p q = check q := by simp [i7, h1, h2]
   have s1 := e8 p hp
   have s2 := e8 q hq
   rw [h1] at s1
   rw [e, if_neg h2]
   have h4 : (check q == 0) = false := by simpa using h2
   have h5 : (check q != 0) = true := by simpa using h2
   clear h1 e h2
   generalize check q = k at *
   refine y3 func31 rfl (fun E hE => ?_); simp only [go_sem, ntmps31]
   repeat' (first | (show z3 ..; first | (refine Qr rfl ?_; try intro _ hK; try simp only [go_sem, *])) | (show Hold ..; first | refine Qh rfl ?_ | (refine z7 rfl ⟨_, rfl, fun hb => ?_, fun hb => ?_⟩ <;> (have hc := hb; try simp only [go_sem] at hc)) | refine z8 rfl ?_) | (show q7 ..; first | ((first | refine q8 (s1) ?_ ?_ | refine q8 (s2) ?_ ?_); (focus (simp only [go_sem, *]; done)); simp only [go_sem, *])) | ((with_reducible refine And.intro ?_ ?_); focus omega) | (refine z6 hK ?_; clear hK; simp only [go_sem, *]) | (simp only [z5, z4, go_sem, *]))
   all_goals try contradiction
   all_goals (refine ⟨[_, _], [], [], ⟨rfl, rfl, trivial⟩, ?_⟩; simp only [go_sem, *])
 ·have e : i7 p q = check p := by simp [i7, h1]
  have s1 := e8 p hp
  rw [e, if_neg h1]
  have h4 : (check p == 0) = false := by simpa using h1
  have h5 : (check p != 0) = true := by simpa using h1
  clear e h1
  generalize check p = k at *
  refine y3 func31 rfl (fun E hE => ?_); simp only [go_sem, ntmps31]
  repeat' (first | (show z3 ..; first | (refine Qr rfl ?_; try intro _ hK; try simp only [go_sem, *])) | (show Hold ..; first | refine Qh rfl ?_ | (refine z7 rfl ⟨_, rfl, fun hb => ?_, fun hb => ?_⟩ <;> (have hc := hb; try simp only [go_sem] at hc)) | refine z8 rfl ?_) | (show q7 ..; first | (refine q8 (s1) ?_ ?_; (focus (simp only [go_sem, *]; done)); simp only [go_sem, *])) | ((with_reducible refine And.intro ?_ ?_); focus omega) | (refine z6 hK ?_; clear hK; simp only [go_sem, *]) | (simp only [z5, z4, go_sem, *]))
  all_goals try contradiction
  all_goals (refine ⟨[_, _], [], [], ⟨rfl, rfl, trivial⟩, ?_⟩; simp only [go_sem, *])
end Go.Abs

namespace Go.Abs
open Go Go.Proofs Tryz
attribute [local irreducible] z3 Hold q7
theorem zGj (l : List Int) (h1 : l.length ≤ 4294967296) : zLJ prog 164 [.list (l.map iV)] [] (.own 0 1 0 l.length) [.row 1 (l.map iV)] := by
 cases l with
 | nil =>
  refine zAU (fun a c => ?_)
  refine y3 func164 rfl (fun E hE => ?_); simp only [go_sem, ntmps164]
  repeat' (first | (show z3 ..; first | (refine Qr rfl ?_; try intro _ hK; try simp only [go_sem, *])) | (show Hold ..; first | refine Qh rfl ?_ | (refine z7 rfl ⟨_, rfl, fun hb => ?_, fun hb => ?_⟩ <;> (have hc := hb; try simp only [go_sem] at hc)) | refine z8 rfl ?_) | ((with_reducible refine And.intro ?_ ?_); focus omega) | (refine z6 hK ?_; clear hK; simp only [go_sem, *]) | (simp only [z5, z4, go_sem, *]))
  ·refine ⟨[_], [none], [], ⟨rfl, trivial⟩, ?_⟩
   simp only [go_sem, *]
   simp
  ·refine ⟨[_], [some 1], [], ⟨rfl, trivial⟩, ?_⟩
   simp only [go_sem, *]
 | cons x r =>
  have h2 : r.length + 1 ≤ 4294967296 := by simpa using h1
  refine y3 func164 rfl (fun E hE => ?_); simp only [go_sem, ntmps164]
  repeat' (first | (show z3 ..; first | (refine Qr rfl ?_; try intro _ hK; try simp only [go_sem, *])) | (show Hold ..; first | refine Qh rfl ?_ | (refine z7 rfl ⟨_, rfl, fun hb => ?_, fun hb => ?_⟩ <;> (have hc := hb; try simp only [go_sem] at hc)) | refine z8 rfl ?_) | ((with_reducible refine And.intro ?_ ?_); focus omega) | (refine z6 hK ?_; clear hK; simp only [go_sem, *]) | (simp only [z5, z4, go_sem, *]))
  all_goals try contradiction
  refine ⟨fun y hy => ?_, fun y hy => ?_, by omega, by omega, ?_⟩
  ·obtain ⟨z, _, rfl⟩ := List.mem_map.1 hy
   simp [go_sem]
  ·obtain ⟨z, _, rfl⟩ := List.mem_map.1 hy
   simp [go_sem]
  ·repeat' (first | (show z3 ..; first | (refine Qr rfl ?_; try intro _ hK; try simp only [go_sem, *])) | (show Hold ..; first | refine Qh rfl ?_ | (refine z7 rfl ⟨_, rfl, fun hb => ?_, fun hb => ?_⟩ <;> (have hc := hb; try simp only [go_sem] at hc)) | refine z8 rfl ?_) | ((with_reducible refine And.intro ?_ ?_); focus omega) | (refine z6 hK ?_; clear hK; simp only [go_sem, *]) | (simp only [z5, z4, go_sem, *]))
   refine ⟨[_], [some 1], [], ⟨rfl, trivial⟩, ?_⟩
   simp only [go_sem, *]
theorem zGl (l : List Plate) (h1 : l.length ≤ 4294967296) : zLJ prog 147 [.list (l.map Plate.enc)] [] (.own 0 2 0 l.length) [.row 2 (l.map Plate.enc)] := by
 cases l with
 | nil =>
  refine zAU (fun a c => ?_)
  refine y3 func147 rfl (fun E hE => ?_); simp only [go_sem, ntmps147]
  repeat' (first | (show z3 ..; first | (refine Qr rfl ?_; try intro _ hK; try simp only [go_sem, *])) | (show Hold ..; first | refine Qh rfl ?_ | (refine z7 rfl ⟨_, rfl, fun hb => ?_, fun hb => ?_⟩ <;> (have hc := hb; try simp only [go_sem] at hc)) | refine z8 rfl ?_) | ((with_reducible refine And.intro ?_ ?_); focus omega) | (refine z6 hK ?_; clear hK; simp only [go_sem, *]) | (simp only [z5, z4, go_sem, *]))
  ·refine ⟨[_], [none], [], ⟨rfl, trivial⟩, ?_⟩
   simp only [go_sem, *]
   simp
  ·refine ⟨[_], [some 1], [], ⟨rfl, trivial⟩, ?_⟩
   simp only [go_sem, *]
 | cons x r =>
  have h2 : r.length + 1 ≤ 4294967296 := by simpa using h1
  refine y3 func147 rfl (fun E hE => ?_); simp only [go_sem, ntmps147]
  repeat' (first | (show z3 ..; first | (refine Qr rfl ?_; try intro _ hK; try simp only [go_sem, *])) | (show Hold ..; first | refine Qh rfl ?_ | (refine z7 rfl ⟨_, rfl, fun hb => ?_, fun hb => ?_⟩ <;> (have hc := hb; try simp only [go_sem] at hc)) | refine z8 rfl ?_) | ((with_reducible refine And.intro ?_ ?_); focus omega) | (refine z6 hK ?_; clear hK; simp only [go_sem, *]) | (simp only [z5, z4, go_sem, *]))
  all_goals try contradiction
  refine ⟨fun y hy => ?_, fun y hy => ?_, by omega, by omega, ?_⟩
  ·obtain ⟨z, _, rfl⟩ := List.mem_map.1 hy
   simp [go_sem]
  ·obtain ⟨z, _, rfl⟩ := List.mem_map.1 hy
   simp [go_sem]
  ·repeat' (first | (show z3 ..; first | (refine Qr rfl ?_; try intro _ hK; try simp only [go_sem, *])) | (show Hold ..; first | refine Qh rfl ?_ | (refine z7 rfl ⟨_, rfl, fun hb => ?_, fun hb => ?_⟩ <;> (have hc := hb; try simp only [go_sem] at hc)) | refine z8 rfl ?_) | ((with_reducible refine And.intro ?_ ?_); focus omega) | (refine z6 hK ?_; clear hK; simp only [go_sem, *]) | (simp only [z5, z4, go_sem, *]))
   refine ⟨[_], [some 1], [], ⟨rfl, trivial⟩, ?_⟩
   simp only [go_sem, *]
theorem zGk (l : List House) (h1 : l.length ≤ 4294967296) : zLJ prog 134 [.list (l.map House.enc)] [] (.own 0 3 0 l.length) [.row 3 (l.map House.enc)] := by
 cases l with
 | nil =>
  refine zAU (fun a c => ?_)
  refine y3 func134 rfl (fun E hE => ?_); simp only [go_sem, ntmps134]
  repeat' (first | (show z3 ..; first | (refine Qr rfl ?_; try intro _ hK; try simp only [go_sem, *])) | (show Hold ..; first | refine Qh rfl ?_ | (refine z7 rfl ⟨_, rfl, fun hb => ?_, fun hb => ?_⟩ <;> (have hc := hb; try simp only [go_sem] at hc)) | refine z8 rfl ?_) | ((with_reducible refine And.intro ?_ ?_); focus omega) | (refine z6 hK ?_; clear hK; simp only [go_sem, *]) | (simp only [z5, z4, go_sem, *]))
  ·refine ⟨[_], [none], [], ⟨rfl, trivial⟩, ?_⟩
   simp only [go_sem, *]
   simp
  ·refine ⟨[_], [some 1], [], ⟨rfl, trivial⟩, ?_⟩
   simp only [go_sem, *]
 | cons x r =>
  have h2 : r.length + 1 ≤ 4294967296 := by simpa using h1
  refine y3 func134 rfl (fun E hE => ?_); simp only [go_sem, ntmps134]
  repeat' (first | (show z3 ..; first | (refine Qr rfl ?_; try intro _ hK; try simp only [go_sem, *])) | (show Hold ..; first | refine Qh rfl ?_ | (refine z7 rfl ⟨_, rfl, fun hb => ?_, fun hb => ?_⟩ <;> (have hc := hb; try simp only [go_sem] at hc)) | refine z8 rfl ?_) | ((with_reducible refine And.intro ?_ ?_); focus omega) | (refine z6 hK ?_; clear hK; simp only [go_sem, *]) | (simp only [z5, z4, go_sem, *]))
  all_goals try contradiction
  refine ⟨fun y hy => ?_, fun y hy => ?_, by omega, by omega, ?_⟩
  ·obtain ⟨z, _, rfl⟩ := List.mem_map.1 hy
   simp [go_sem]
  ·obtain ⟨z, _, rfl⟩ := List.mem_map.1 hy
   simp [go_sem]
  ·repeat' (first | (show z3 ..; first | (refine Qr rfl ?_; try intro _ hK; try simp only [go_sem, *])) | (show Hold ..; first | refine Qh rfl ?_ | (refine z7 rfl ⟨_, rfl, fun hb => ?_, fun hb => ?_⟩ <;> (have hc := hb; try simp only [go_sem] at hc)) | refine z8 rfl ?_) | ((with_reducible refine And.intro ?_ ?_); focus omega) | (refine z6 hK ?_; clear hK; simp only [go_sem, *]) | (simp only [z5, z4, go_sem, *]))
   refine ⟨[_], [some 1], [], ⟨rfl, trivial⟩, ?_⟩
   simp only [go_sem, *]
def zL6 (l : List House) (x : House) : Int := if x ∈ l then (l.idxOf x : Nat) else -1
theorem zBV {l : List House} {x : House} (h : x ∈ l) : zL6 l x = (l.idxOf x : Nat) := by simp [zL6, h]
theorem zBU {l : List House} {x : House} (hn : x ∉ l) : zL6 l x = -1 := by simp [zL6, hn]
theorem zHs {l : List House} {i : Nat} {x : House} (h : i < l.length) (hn : x ∉ l.take i) (hx : ¬ l.getD i default = x) : x ∉ l.take (i + 1) := by
 rw [List.take_add_one]
 simp only [List.getD_eq_getElem?_getD, List.getElem?_eq_getElem h, Option.getD_some] at hx
 simp only [List.getElem?_eq_getElem h, Option.toList_some, List.mem_append, List.mem_singleton, not_or]
 exact ⟨hn, fun e => hx e.symm⟩
theorem zFA {l : List House} {i : Nat} {x : House} (h : i < l.length) (hn : x ∉ l.take i) (hx : l.getD i default = x) : zL6 l x = i := by
 have hg : l.drop i = x :: l.drop (i + 1) := by rw [v3 h, hx]
 have hl : l = l.take i ++ x :: l.drop (i + 1) := by rw [← hg, List.take_append_drop]
 have hm : x ∈ l := by rw [hl]; simp
 rw [zBV hm]
 conv => lhs; rw [hl]
 rw [List.idxOf_append, if_neg hn]
 simp; omega
theorem zGx (l : List House) (x : House) (h1 : l.length ≤ 4294967296) : zLJ prog 142 [.list (l.map House.enc), x.enc] [] (iV (zL6 l x)) [] := by
 refine y3 func142 rfl (fun E hE => ?_); simp only [go_sem, ntmps142]
 repeat' (first | (show z3 ..; first | (refine Qr rfl ?_; try intro _ hK; try simp only [go_sem, *])) | (show Hold ..; first | refine Qh rfl ?_ | refine q6 rfl mixed (by kernel_rfl) ?_ | (refine z7 rfl ⟨_, rfl, fun hb => ?_, fun hb => ?_⟩ <;> (have hc := hb; try simp only [go_sem] at hc)) | refine z8 rfl ?_) | (refine Qb ?_ ?_; focus kernel_rfl) | ((with_reducible refine And.intro ?_ ?_); focus omega) | (refine z6 hK ?_; clear hK; simp only [go_sem, *]) | (simp only [z5, z4, go_sem, *]))
 refine y8 rfl (fun zn zN zenv zAs => ∃ (i : Nat), zn = (l.length) - i ∧ i ≤ (l.length) ∧ (x ∉ l.take i) ∧ zN = 19 ∧ zenv = [(8, iV i), (7, iV l.length), (3, .ptr 0 0), (0, .list (l.map House.enc))] ∧ zAs = [.box [iV x.street, iV x.plate.number, iV x.plate.letter]]) (l.length) ⟨[some 0], [], _, _, _, (by (simp only [Weak, go_sem, List.map_append, List.map_set, *] <;> (try simp (disch := omega) only [q9]) <;> (try simp) <;> (try omega))), 0, (by simp), (by simp), (by simp), rfl, rfl, rfl⟩ ?_; rintro _ _ _ _ ⟨i, rfl, hi, hP, rfl, rfl, rfl⟩
 repeat' (first | (show z3 ..; first | (refine Qr rfl ?_; try intro _ hK; try simp only [go_sem, *])) | (show Hold ..; first | refine Qh rfl ?_ | refine q6 rfl mixed (by kernel_rfl) ?_ | (refine z7 rfl ⟨_, rfl, fun hb => ?_, fun hb => ?_⟩ <;> (have hc := hb; try simp only [go_sem] at hc)) | refine z8 rfl ?_) | (refine Qb ?_ ?_; focus kernel_rfl) | ((with_reducible refine And.intro ?_ ?_); focus omega) | (refine z6 hK ?_; clear hK; simp only [go_sem, *]) | (simp only [z5, z4, go_sem, *]))
 ·(refine ⟨[_], [], [], ⟨rfl, trivial⟩, ?_⟩; simp only [go_sem, *])
  have e : x = l.getD i default := by assumption
  rw [← e]
  exact B3 (zFA (by assumption) hP e.symm)
 ·refine ⟨_, (by omega), [some 0], [], _, _, _, (by (simp only [Weak, go_sem, List.map_append, List.map_set, *] <;> (try simp (disch := omega) only [q9]) <;> (try simp) <;> (try omega))), i + 1, rfl, (by omega), (by exact zHs (by assumption) hP (fun e => absurd e.symm (by assumption))), rfl, rfl, rfl⟩
 ·(refine ⟨[_], [], [], ⟨rfl, trivial⟩, ?_⟩; simp only [go_sem, *])
  rw [List.take_of_length_le (by omega)] at hP
  rw [zBU hP]
theorem zAJ (l : List House) (x : House) (h1 : l.length ≤ 4294967296) : zLJ prog 106 [.list (l.map House.enc), x.enc] [] (bV (decide (x ∈ l))) [] := by
 refine y3 func106 rfl (fun E hE => ?_); simp only [go_sem, ntmps106]
 repeat' (first | (show z3 ..; first | (refine Qr rfl ?_; try intro _ hK; try simp only [go_sem, *])) | (show Hold ..; first | refine Qh rfl ?_ | (refine z7 rfl ⟨_, rfl, fun hb => ?_, fun hb => ?_⟩ <;> (have hc := hb; try simp only [go_sem] at hc)) | refine z8 rfl ?_) | (show q7 ..; first | (refine q8 (zGx l x h1) ?_ ?_; (focus (simp only [go_sem, *]; done)); simp only [go_sem, *])) | ((with_reducible refine And.intro ?_ ?_); focus omega) | (refine z6 hK ?_; clear hK; simp only [go_sem, *]) | (simp only [z5, z4, go_sem, *]))
 (refine ⟨[_], [], [], ⟨rfl, trivial⟩, ?_⟩; simp only [go_sem, *])
 refine W9 ?_
 by_cases hm : x ∈ l
 ·simp [zBV hm, hm]
 ·simp [zBU hm, hm]
theorem zGm (l : List House) (h1 : l.length ≤ 4294967296) (hn : l.Nodup) : zLJ prog 137 [.own 0 3 0 l.length] [.row 3 (l.map House.enc)] (.own 0 3 0 l.length) [.row 3 (l.map House.enc)] := by
 have hne : ∀ i, i + 1 < l.length → ¬ l.getD (i + 1) default = l.getD i default := fun i hi e => by
  have e1 : l.getD (i + 1) default = l[i + 1] := by simp [List.getD, hi]
  have e2 : l.getD i default = l[i] := by simp [List.getD, show i < l.length by omega]
  rw [e1, e2] at e
  have := (Q6 hn).1 e
  omega
 refine y3 func137 rfl (fun E hE => ?_); simp only [go_sem, ntmps137]
 repeat' (first | (show z3 ..; first | (refine Qr rfl ?_; try intro _ hK; try simp only [go_sem, *])) | (show Hold ..; first | refine Qh rfl ?_ | refine q6 rfl mixed (by kernel_rfl) ?_ | (refine z7 rfl ⟨_, rfl, fun hb => ?_, fun hb => ?_⟩ <;> (have hc := hb; try simp only [go_sem] at hc)) | refine z8 rfl ?_) | (refine Qb ?_ ?_; focus kernel_rfl) | ((with_reducible refine And.intro ?_ ?_); focus omega) | (refine z6 hK ?_; clear hK; simp only [go_sem, *]) | (simp only [z5, z4, go_sem, *]))
 ·refine ⟨[_], [some 0], [], ⟨rfl, trivial⟩, ?_⟩
  simp only [go_sem, *]
 ·refine y8 rfl (fun zn zN zenv zAs => ∃ (i : Nat), zn = (l.length - 1) - i ∧ i ≤ (l.length - 1) ∧ (NoP i) ∧ zN = 61 ∧ zenv = [(3, iV ((i : Int) + 1)), (0, .own 0 3 0 l.length)] ∧ zAs = [.row 3 (l.map House.enc)]) (l.length - 1) ⟨[some 0], [], _, _, _, (by (simp only [Weak, go_sem, List.map_append, List.map_set, *] <;> (try simp (disch := omega) only [q9]) <;> (try simp) <;> (try omega))), 0, (by simp), (by simp), (by trivial), rfl, rfl, rfl⟩ ?_; rintro _ _ _ _ ⟨i, rfl, hi, hP, rfl, rfl, rfl⟩
  have hw1 : i + 1 < l.length → IntKind.i64.wrap ((i : Int) + 1 - 1) = (i : Int) := fun h => by rw [wrap_i64 (by omega) (by omega)]; omega
  have hw2 : i + 1 < l.length → IntKind.i64.wrap ((i : Int) + 1 + 1) = (((i + 1 : Nat) : Int) + 1) := fun h => by rw [wrap_i64 (by omega) (by omega)]; omega
  have hlt : ((i : Int) + 1 < (l.length : Int)) = (i + 1 < l.length) := by simp only [eq_iff_iff]; omega
  have htn : ((i : Int) + 1).toNat = i + 1 := by omega
  by_cases h2 : i + 1 < l.length
  ·have h3 : i < l.length := by omega
   have hne := hne i h2
   have hne' : decide (l.getD (i + 1) default = l.getD i default) = false := by simpa using hne
   repeat' (first | (show z3 ..; first | (refine Qr rfl ?_; try intro _ hK; try simp only [go_sem, *])) | (show Hold ..; first | refine Qh rfl ?_ | refine q6 rfl mixed (by kernel_rfl) ?_ | (refine z7 rfl ⟨_, rfl, fun hb => ?_, fun hb => ?_⟩ <;> (have hc := hb; try simp only [go_sem] at hc)) | refine z8 rfl ?_) | (refine Qb ?_ ?_; focus kernel_rfl) | ((with_reducible refine And.intro ?_ ?_); focus omega) | (refine z6 hK ?_; clear hK; simp only [go_sem, *]) | (simp only [z5, z4, go_sem, *]))
   all_goals try contradiction
   refine ⟨_, (by omega), [some 0], [], _, _, _, (by (simp only [Weak, go_sem, List.map_append, List.map_set, *] <;> (try simp (disch := omega) only [q9]) <;> (try simp) <;> (try omega))), i + 1, rfl, (by omega), (by trivial), rfl, rfl, rfl⟩
  ·repeat' (first | (show z3 ..; first | (refine Qr rfl ?_; try intro _ hK; try simp only [go_sem, *])) | (show Hold ..; first | refine Qh rfl ?_ | refine q6 rfl mixed (by kernel_rfl) ?_ | (refine z7 rfl ⟨_, rfl, fun hb => ?_, fun hb => ?_⟩ <;> (have hc := hb; try simp only [go_sem] at hc)) | refine z8 rfl ?_) | (refine Qb ?_ ?_; focus kernel_rfl) | ((with_reducible refine And.intro ?_ ?_); focus omega) | (refine z6 hK ?_; clear hK; simp only [go_sem, *]) | (simp only [z5, z4, go_sem, *]))
   refine ⟨[_], [some 0], [], ⟨rfl, trivial⟩, ?_⟩
   simp only [go_sem, *]
theorem zFN {xs : List House} (hn : xs.Nodup) : Strict (v6 zLi xs) := by
 have h1 := zBe zLi zF2 xs
 have h2 : (v6 zLi xs).Nodup := (V7 zLi xs).nodup_iff.2 hn
 refine (h1.and h2).imp (fun {a b} h => ?_)
 rcases House.lt_tri a b with h3 | h3 | h3
 ·exact h3
 ·exact absurd h3 h.2
 ·exact absurd ((E8 b a).2 h3) h.1
theorem B4 {xs : List House} (hn : xs.Nodup) : v6 zLi xs = w8 xs :=
 L9 (zFN hn) (U5 xs) (fun z => by rw [(V7 zLi xs).mem_iff, mem_sortH])
theorem zCY (l : List House) (hn : l.Nodup) (h12 : l.length ≤ 12) : zLJ prog 99 [.list (l.map House.enc)] [] (.list ((w8 l).map House.enc)) [] := by
 have hcal : r5 prog 136 = true := by kernel_rfl
 have ss := zG0 hcal (fun a b => zG6 a b) l h12
 rw [B4 hn] at ss
 have hl : (w8 l).length = l.length := by rw [← B4 hn]; exact (V7 zLi l).length_eq
 have hns : (w8 l).Nodup := by rw [← B4 hn]; exact (V7 zLi l).nodup_iff.2 hn
 have sc := zGm (w8 l) (by omega) hns
 rw [hl] at sc
 have hl2 : l.length ≤ (w8 l).length := by omega
 have hl3 : (w8 l).length ≤ l.length := by omega
 clear hl hns
 have hcl := zGk l (by omega)
 refine y3 func99 rfl (fun E hE => ?_); simp only [go_sem, ntmps99]
 repeat' (first | (show z3 ..; first | (refine Qr rfl ?_; try intro _ hK; try simp only [go_sem, *])) | (show Hold ..; first | refine Qh rfl ?_ | (refine z7 rfl ⟨_, rfl, fun hb => ?_, fun hb => ?_⟩ <;> (have hc := hb; try simp only [go_sem] at hc)) | refine z8 rfl ?_) | (show q7 ..; first | (refine v5 (hcl) ?_ ?_ ?_ ?_; (focus (simp only [go_sem, *]; done)); (focus (first | (simp; done) | (simp [go_sem]; done))); (focus (first | (simp; done) | (simp [go_sem]; done))); simp only [go_sem, *])) | ((with_reducible refine And.intro ?_ ?_); focus omega) | (refine z6 hK ?_; clear hK; simp only [go_sem, *]) | (simp only [z5, z4, go_sem, *]))
 refine x8 [0] [] ss (by simp) (by simp only [go_sem, *]) (by simp only [go_sem, AObj.live, *]) (by simp) (.inl rfl) (by simp [go_sem]) (by simp) ?_
 simp only [go_sem, *]
 repeat' (first | (show z3 ..; first | (refine Qr rfl ?_; try intro _ hK; try simp only [go_sem, *])) | (show Hold ..; first | refine Qh rfl ?_ | (refine z7 rfl ⟨_, rfl, fun hb => ?_, fun hb => ?_⟩ <;> (have hc := hb; try simp only [go_sem] at hc)) | refine z8 rfl ?_) | ((with_reducible refine And.intro ?_ ?_); focus omega) | (refine z6 hK ?_; clear hK; simp only [go_sem, *]) | (simp only [z5, z4, go_sem, *]))
 refine x8 [0] [] sc (by simp) (by simp only [go_sem, *]) (by simp only [go_sem, AObj.live, *]) (by simp) (.inl rfl) (by simp [go_sem]) (by simp) ?_
 simp only [go_sem, *]
 repeat' (first | (show z3 ..; first | (refine Qr rfl ?_; try intro _ hK; try simp only [go_sem, *])) | (show Hold ..; first | refine Qh rfl ?_ | (refine z7 rfl ⟨_, rfl, fun hb => ?_, fun hb => ?_⟩ <;> (have hc := hb; try simp only [go_sem] at hc)) | refine z8 rfl ?_) | ((with_reducible refine And.intro ?_ ?_); focus omega) | (refine z6 hK ?_; clear hK; simp only [go_sem, *]) | (simp only [z5, z4, go_sem, *]))
 refine ⟨[_], [], [0], ⟨rfl, trivial⟩, ?_⟩
 simp only [go_sem, *]
 exact (List.take_of_length_le (by simpa using hl3)).symm
end Go.Abs

namespace Go.Abs
open Go Go.Proofs Tryz
attribute [local irreducible] z3 Hold q7
@[go_sem] theorem zKI (h : House) : s6 h.key = h.enc := by simp [House.key, House.enc, s6, Value.oneCell']
def ThP (hs don rem : List House) (i : Nat) : Prop := rem.length + i = hs.length ∧ (don ++ rem).Perm hs
def W5 (f g : House → List House) (h : House) : List House := w8 ((f h).flatMap g)
theorem zHg (hs ks : List House) (f g : House → List House) (hn : hs.Nodup) (hw : ∀ k, k ∈ hs → k.Wf) (kw : ∀ k, k ∈ ks → k.Wf) (hk : ∀ h, h ∈ hs → ∀ x, x ∈ f h → x ∈ ks) (hnd : ∀ h, h ∈ hs → ((f h).flatMap g).Nodup) (h12 : ∀ h, h ∈ hs → ((f h).flatMap g).length ≤ 12)
  (hsl : hs.length ≤ 1000) (hfl : ∀ h, h ∈ hs → (f h).length ≤ 1000) (hgl : ∀ x, x ∈ ks → (g x).length ≤ 1000) :
  zLJ prog 165 [.fmap (hs.map House.key) (hs.map (zLN f)), .fmap (ks.map House.key) (ks.map (zLN g))] [] (.fmap (hs.map House.key) (hs.map (zLN (W5 f g)))) [] := by
 have hmt : (zLf prog 121).isSome = true := by kernel_rfl
 refine y3 func165 rfl (fun E hE => ?_); simp only [go_sem, ntmps165]
 repeat' (first | (show z3 ..; first | (refine Qr rfl ?_; try intro _ hK; try simp only [go_sem, *])) | (show Hold ..; first | refine Qh rfl ?_ | refine q6 rfl mixed (by kernel_rfl) ?_ | (refine z7 rfl ⟨_, rfl, fun hb => ?_, fun hb => ?_⟩ <;> (have hc := hb; try simp only [go_sem] at hc)) | refine z8 rfl ?_) | (refine Qb ?_ ?_; focus kernel_rfl) | ((with_reducible refine And.intro ?_ ?_); focus omega) | (refine z6 hK ?_; clear hK; simp only [go_sem, *]) | (simp only [z5, z4, go_sem, *]))
 refine y8 rfl (fun zn zN zenv zAs => ∃ (i : Nat) (cur : Option (Value × AV)) (don rem : List House), zn = (hs.length) - i ∧ i ≤ (hs.length) ∧ (ThP hs don rem i) ∧ zN = 36 ∧ zenv = [(5, .mp 0), (13, .ptr 1 0), (1, .fmap (ks.map House.key) (ks.map (zLN g)))] ∧ zAs = [.mapo (don.map House.key) (don.map (zLN (W5 f g))), .iter cur (rem.map House.key) (rem.map (zLN f))]) (hs.length) ⟨[some 0, some 1], [], _, _, _, (by (simp only [Weak, go_sem, List.map_append, List.map_set, *] <;> (try simp (disch := omega) only [q9]) <;> (try simp) <;> (try omega))), 0, none, [], hs, (by simp), (by simp), (by exact ⟨by omega, by simp⟩), rfl, rfl, rfl⟩ ?_; rintro _ _ _ _ ⟨i, cur, don, rem, rfl, hi, hP, rfl, rfl, rfl⟩
 refine P4 rfl ?_
 refine G7 (o := 1) rfl rfl rfl rfl rfl rfl rfl cur (rem.map House.key) (rem.map (zLN f)) (by simp only [go_sem]) (by simp only [go_sem]) (show (14 : Nat) < 36 by decide) (show (15 : Nat) < 36 by decide) (fun hk0 _ => ?_) (fun r hr1 hr2 => ?_)
 ·obtain rfl : rem = [] := by simpa using hk0
  simp only [go_sem]
  repeat' (first | (show z3 ..; first | (refine Qr rfl ?_; try intro _ hK; try simp only [go_sem, *])) | (show Hold ..; first | refine Qh rfl ?_ | refine q6 rfl mixed (by kernel_rfl) ?_ | (refine z7 rfl ⟨_, rfl, fun hb => ?_, fun hb => ?_⟩ <;> (have hc := hb; try simp only [go_sem] at hc)) | refine z8 rfl ?_) | (refine Qb ?_ ?_; focus kernel_rfl) | ((with_reducible refine And.intro ?_ ?_); focus omega) | (refine z6 hK ?_; clear hK; simp only [go_sem, *]) | (simp only [z5, z4, go_sem, *]))
  obtain ⟨_, p0⟩ := hP
  rw [List.append_nil] at p0
  have hpm : MPerm (hs.map House.key) (hs.map (zLN (W5 f g))) (don.map House.key) (don.map (zLN (W5 f g))) := by
   refine .inr ⟨by simp, by simp, ?_⟩
   rw [List.zip_map', List.zip_map']
   exact (p0.map _).symm
  refine ⟨[_], [], [0], ⟨rfl, trivial⟩, ?_⟩
  simp only [go_sem, *]
 ·obtain ⟨hr, hrk, hrx⟩ : ∃ hr : r < rem.length, (rem.map House.key)[r] = (rem[r]).key ∧ (rem.map (zLN f))[r] = .list ((f rem[r]).map House.enc) := ⟨by simpa using hr1, by simp, by simp [zLN]⟩
  rw [hrk, hrx, ← Q5, ← Q5]
  obtain ⟨hlen0, hperm⟩ := hP
  have hq : (rem[r] :: rem.eraseIdx r).Perm rem := (E9 rem r hr).symm
  have hel : (rem.eraseIdx r).length = rem.length - 1 := List.length_eraseIdx_of_lt hr
  clear hrk hrx
  generalize rem.eraseIdx r = rem' at *
  generalize rem[r] = h at *
  have hq2 : ((don ++ [h]) ++ rem').Perm hs := by
   rw [List.append_assoc]
   exact (List.Perm.append_left don hq).trans hperm
  have hmh : h ∈ hs := hq2.mem_iff.1 (by simp)
  have hmd : ∀ k, k ∈ don → k ∈ hs := fun k hk => hq2.mem_iff.1 (by simp [hk])
  have hnd2 := hq2.nodup_iff.2 hn
  have hnot : h ∉ don := fun hd => by
   rw [List.append_assoc] at hnd2
   exact (List.nodup_append.1 hnd2).2.2 h hd h (by simp) rfl
  have hil : i < hs.length := by omega
  have hfh := hfl h hmh
  have hkh := hk h hmh
  have hndh := hnd h hmh
  have h12h := h12 h hmh
  clear hq hperm hnd2
  simp only [go_sem]
  repeat' (first | (show z3 ..; first | (refine Qr rfl ?_; try intro _ hK; try simp only [go_sem, *])) | (show Hold ..; first | refine Qh rfl ?_ | refine q6 rfl mixed (by kernel_rfl) ?_ | (refine z7 rfl ⟨_, rfl, fun hb => ?_, fun hb => ?_⟩ <;> (have hc := hb; try simp only [go_sem] at hc)) | refine z8 rfl ?_) | (refine Qb ?_ ?_; focus kernel_rfl) | ((with_reducible refine And.intro ?_ ?_); focus omega) | (refine z6 hK ?_; clear hK; simp only [go_sem, *]) | (simp only [z5, z4, go_sem, *]))
  refine y8 rfl (fun zn zN zenv zAs => ∃ (j : Nat) (acc : List House), zn = ((f h).length) - j ∧ j ≤ ((f h).length) ∧ (acc ++ ((f h).drop j).flatMap g = (f h).flatMap g) ∧ zN = 36 ∧ zenv = [(21, iV j), (20, iV (f h).length), (19, .list ((f h).map House.enc)), (8, .own 3 3 0 acc.length), (6, .ptr 2 0), (5, .mp 0), (13, .ptr 1 0), (1, .fmap (ks.map House.key) (ks.map (zLN g)))] ∧ zAs = [.mapo (don.map House.key) (don.map (zLN (W5 f g))), .iter (some (h.key, .list ((f h).map House.enc))) (rem'.map House.key) (rem'.map (zLN f)), .box [iV h.street, iV h.plate.number, iV h.plate.letter], .row 3 (acc.map House.enc)]) ((f h).length) ⟨[some 0, some 1, some 2, none], [], _, _, _, (by (simp only [Weak, go_sem, List.map_append, List.map_set, *] <;> (try simp (disch := omega) only [q9]) <;> (try simp) <;> (try omega))), 0, [], (by simp), (by simp), (by simp), rfl, rfl, rfl⟩ ?_; rintro _ _ _ _ ⟨j, acc, rfl, hj, hQ, rfl, rfl, rfl⟩
  have hql := congrArg List.length hQ
  simp only [List.length_append] at hql
  by_cases hj : j < (f h).length
  ·have hdj := v3 hj
   rw [hdj, List.flatMap_cons] at hQ hql
   simp only [List.length_append] at hql
   have hxk := hkh _ (w6 hj)
   have hxw := kw _ hxk
   have hgx := hgl _ hxk
   clear hdj
   repeat' (first | (show z3 ..; first | (refine Qr rfl ?_; try intro _ hK; try simp only [go_sem, *])) | (show Hold ..; first | refine Qh rfl ?_ | refine q6 rfl mixed (by kernel_rfl) ?_ | (refine z7 rfl ⟨_, rfl, fun hb => ?_, fun hb => ?_⟩ <;> (have hc := hb; try simp only [go_sem] at hc)) | refine z8 rfl ?_) | (refine Qb ?_ ?_; focus kernel_rfl) | ((with_reducible refine And.intro ?_ ?_); focus omega) | (refine z6 hK ?_; clear hK; simp only [go_sem, *]) | (simp only [z5, z4, go_sem, *]))
   refine X5 (h := (f h).getD j default) (hs := ks) (F := zLN g) kw hxw ?_
   rw [if_pos hxk, zLN]
   repeat' (first | (show z3 ..; first | (refine Qr rfl ?_; try intro _ hK; try simp only [go_sem, *])) | (show Hold ..; first | refine Qh rfl ?_ | refine q6 rfl mixed (by kernel_rfl) ?_ | (refine z7 rfl ⟨_, rfl, fun hb => ?_, fun hb => ?_⟩ <;> (have hc := hb; try simp only [go_sem] at hc)) | refine z8 rfl ?_) | (refine Qb ?_ ?_; focus kernel_rfl) | ((with_reducible refine And.intro ?_ ?_); focus omega) | (refine z6 hK ?_; clear hK; simp only [go_sem, *]) | (simp only [z5, z4, go_sem, *]))
   refine ⟨fun y hy => ?_, fun y hy => ?_, by omega, ?_⟩
   ·obtain ⟨z, _, rfl⟩ := List.mem_map.1 hy
    simp [go_sem]
   ·obtain ⟨z, _, rfl⟩ := List.mem_map.1 hy
    simp [go_sem]
   ·repeat' (first | (show z3 ..; first | (refine Qr rfl ?_; try intro _ hK; try simp only [go_sem, *])) | (show Hold ..; first | refine Qh rfl ?_ | refine q6 rfl mixed (by kernel_rfl) ?_ | (refine z7 rfl ⟨_, rfl, fun hb => ?_, fun hb => ?_⟩ <;> (have hc := hb; try simp only [go_sem] at hc)) | refine z8 rfl ?_) | (refine Qb ?_ ?_; focus kernel_rfl) | ((with_reducible refine And.intro ?_ ?_); focus omega) | (refine z6 hK ?_; clear hK; simp only [go_sem, *]) | (simp only [z5, z4, go_sem, *]))
    refine ⟨_, (by omega), [some 0, some 1, some 2, some 5], [], _, _, _, (by (simp only [Weak, go_sem, List.map_append, List.map_set, *] <;> (try simp (disch := omega) only [q9]) <;> (try simp) <;> (try omega))), j + 1, acc ++ g ((f h).getD j default), rfl, (by omega), (by rw [← hQ]; simp), rfl, rfl, rfl⟩
  ·rw [v4 (by omega), List.flatMap_nil, List.append_nil] at hQ
   subst hQ
   repeat' (first | (show z3 ..; first | (refine Qr rfl ?_; try intro _ hK; try simp only [go_sem, *])) | (show Hold ..; first | refine Qh rfl ?_ | refine q6 rfl mixed (by kernel_rfl) ?_ | (refine z7 rfl ⟨_, rfl, fun hb => ?_, fun hb => ?_⟩ <;> (have hc := hb; try simp only [go_sem] at hc)) | refine z8 rfl ?_) | (refine Qb ?_ ?_; focus kernel_rfl) | ((with_reducible refine And.intro ?_ ?_); focus omega) | (refine z6 hK ?_; clear hK; simp only [go_sem, *]) | (simp only [z5, z4, go_sem, *]))
   refine r6 (gone := [3]) (zCY ((f h).flatMap g) hndh h12h) (by simp only [go_sem, *]; simp [List.take_of_length_le]) (by simp only [go_sem, *]; simp) (by simp only [go_sem]) (by simp) (by simp) ?_
   simp only [go_sem, w9]
   repeat' (first | (show z3 ..; first | (refine Qr rfl ?_; try intro _ hK; try simp only [go_sem, *])) | (show Hold ..; first | refine Qh rfl ?_ | refine q6 rfl mixed (by kernel_rfl) ?_ | (refine z7 rfl ⟨_, rfl, fun hb => ?_, fun hb => ?_⟩ <;> (have hc := hb; try simp only [go_sem] at hc)) | refine z8 rfl ?_) | (refine Qb ?_ ?_; focus kernel_rfl) | ((with_reducible refine And.intro ?_ ?_); focus omega) | (refine z6 hK ?_; clear hK; simp only [go_sem, *]) | (simp only [z5, z4, go_sem, *]))
   refine zBz (h := h) (hs := don) (xs := don.map (zLN (W5 f g))) (by simp only [go_sem, *]) (fun k hk => hw k (hmd k hk)) (hw h hmh) hnot (by simp only [go_sem, *]) (by simp only [go_sem, *]) ?_
   simp only [go_sem, *]
   repeat' (first | (show z3 ..; first | (refine Qr rfl ?_; try intro _ hK; try simp only [go_sem, *])) | (show Hold ..; first | refine Qh rfl ?_ | refine q6 rfl mixed (by kernel_rfl) ?_ | (refine z7 rfl ⟨_, rfl, fun hb => ?_, fun hb => ?_⟩ <;> (have hc := hb; try simp only [go_sem] at hc)) | refine z8 rfl ?_) | (refine Qb ?_ ?_; focus kernel_rfl) | ((with_reducible refine And.intro ?_ ?_); focus omega) | (refine z6 hK ?_; clear hK; simp only [go_sem, *]) | (simp only [z5, z4, go_sem, *]))
   have hM : zLN (W5 f g) h = .list ((w8 ((f h).flatMap g)).map House.enc) := rfl
   refine ⟨_, (by omega), [some 0, some 1], [], _, _, _, (by (simp only [Weak, go_sem, List.map_append, List.map_set, *] <;> (try simp (disch := omega) only [q9]) <;> (try simp) <;> (try omega))), i + 1, (some (h.key, .list ((f h).map House.enc))), don ++ [h], rem', rfl, (by omega), (by exact ⟨by omega, hq2⟩), rfl, rfl, rfl⟩
end Go.Abs

namespace Go.Abs
open Go Go.Proofs Tryz
attribute [local irreducible] z3 Hold q7
def j1 : List Change → Int
 | [] => 0
 | c :: r => if zLL c.kind 1 7 = true then j1 r else 8
def Z6 : List (List Change) → Int
 | [] => 0
 | w :: r => if w.length = 0 then 7 else if 3 < w.length then 6 else if j1 w = 0 then Z6 r else 8
def b9 (p : zLI) : List Fact → Int
 | [] => 0
 | f :: r => if f.src ∈ y4 p ∧ zLL f.dst.street 0 (p.length - 1) = true then (if f.dst.plate.ok = true then b9 p r else 1) else 3
def J2 (s : Story) : Int := if 4 < s.facts.length then 6 else b9 s.first s.facts
def W3 (s : Story) (l : List (List Change)) : Int := if Z6 l = 0 then J2 s else Z6 l
def r4 (s : Story) : Int := if check s.first = 0 then if 3 < s.steps.length then 6 else W3 s s.steps else check s.first
def o5 (s : Story) : AObj := .box [.list (s.first.map y6), .list (s.steps.map Z8), .list (s.facts.map Fact.enc), .list ((y4 s.first).map House.enc)]
attribute [go_sem] o5
abbrev zML : AV := .raw (.pointer none)
def G0 (G : Int) (R : AV) (out : List AObj) (s : Story) : Prop := (G = 0 → R = .tup [.ptr 0 0, iV 0] ∧ out = [o5 s]) ∧ (G ≠ 0 → R = .tup [zML, iV G] ∧ out = [])
theorem zH8 {l : List Change} {i : Nat} (h : i < l.length) : j1 (l.drop i) = if zLL (l.getD i default).kind 1 7 = true then j1 (l.drop (i + 1)) else 8 := by
 rw [v3 h, j1]
theorem zHn {l : List (List Change)} {i : Nat} (h : i < l.length) : Z6 (l.drop i) = if (l.getD i default).length = 0 then 7 else if 3 < (l.getD i default).length then 6 else if j1 (l.getD i default) = 0 then Z6 (l.drop (i + 1)) else 8 := by
 rw [v3 h, Z6]
theorem zDy {p : zLI} {l : List Fact} {i : Nat} (h : i < l.length) : b9 p (l.drop i) = if (l.getD i default).src ∈ y4 p ∧ zLL (l.getD i default).dst.street 0 (p.length - 1) = true then (if (l.getD i default).dst.plate.ok = true then b9 p (l.drop (i + 1)) else 1) else 3 := by
 rw [v3 h, b9]
theorem zCQ (s : Story) (hst : s.steps.length ≤ 4294967296) (hwl : ∀ w, w ∈ s.steps → w.length ≤ 4294967296) (hfl : s.facts.length ≤ 4294967296) (hpl : s.first.length ≤ 4294967296) (R : AV) (out : List AObj) (G : Int) (hG : r4 s = G) (hR : G0 G R out s) :
  zLJ prog 138 [s.enc] [] R out := by
 have sc := e8 s.first hpl
 by_cases hc0 : check s.first = 0
 ·rw [r4, if_pos hc0] at hG
  have v := (T8 s.first).1 hc0
  rw [hc0] at sc
  clear hc0
  by_cases h3 : 3 < s.steps.length
  ·have h3i : (s.steps.length : Int) > 3 := by omega
   rw [if_pos h3] at hG
   subst hG
   obtain ⟨rfl, rfl⟩ := hR.2 (by decide)
   clear hR
   refine y3 func138 rfl (fun E hE => ?_); simp only [go_sem, ntmps138]
   repeat' (first | (show z3 ..; first | (refine Qr rfl ?_; try intro _ hK; try simp only [go_sem, *]) | (refine Qi rfl rfl rfl rfl (fun hb _ hK => ?_) (fun hb => ?_) <;> (have hc := hb; try simp only [go_sem] at hc; simp only [go_sem, *]))) | (show Hold ..; first | refine Qh rfl ?_ | refine q6 rfl mixed (by kernel_rfl) ?_ | (refine z7 rfl ⟨_, rfl, fun hb => ?_, fun hb => ?_⟩ <;> (have hc := hb; try simp only [go_sem] at hc)) | refine z8 rfl ?_) | (refine Qb ?_ ?_; focus kernel_rfl) | (show q7 ..; first | (refine q8 (sc) ?_ ?_; (focus (simp only [go_sem, *]; done)); simp only [go_sem, *])) | ((with_reducible refine And.intro ?_ ?_); focus omega) | (refine z6 hK ?_; clear hK; simp only [go_sem, *]) | (simp only [z5, z4, go_sem, *]))
   all_goals try contradiction
   all_goals (refine ⟨[_, _], [], [], ⟨rfl, rfl, trivial⟩, ?_⟩; simp only [go_sem, *])
  ·have h3i : ¬ (s.steps.length : Int) > 3 := by omega
   rw [if_neg h3] at hG
   refine y3 func138 rfl (fun E hE => ?_); simp only [go_sem, ntmps138]
   repeat' (first | (show z3 ..; first | (refine Qr rfl ?_; try intro _ hK; try simp only [go_sem, *]) | (refine Qi rfl rfl rfl rfl (fun hb _ hK => ?_) (fun hb => ?_) <;> (have hc := hb; try simp only [go_sem] at hc; simp only [go_sem, *]))) | (show Hold ..; first | refine Qh rfl ?_ | refine q6 rfl mixed (by kernel_rfl) ?_ | (refine z7 rfl ⟨_, rfl, fun hb => ?_, fun hb => ?_⟩ <;> (have hc := hb; try simp only [go_sem] at hc)) | refine z8 rfl ?_) | (refine Qb ?_ ?_; focus kernel_rfl) | (show q7 ..; first | (refine q8 (sc) ?_ ?_; (focus (simp only [go_sem, *]; done)); simp only [go_sem, *])) | ((with_reducible refine And.intro ?_ ?_); focus omega) | (refine z6 hK ?_; clear hK; simp only [go_sem, *]) | (simp only [z5, z4, go_sem, *]))
   all_goals try contradiction
   refine y8 rfl (fun zn zN zenv zAs => ∃ (i : Nat), zn = (s.steps.length) - i ∧ i ≤ (s.steps.length) ∧ (W3 s (s.steps.drop i) = G) ∧ zN = 96 ∧ zenv = [(25, iV i), (24, iV s.steps.length), (23, .list (s.steps.map Z8)), (1, .ptr 0 0)] ∧ zAs = [.box [.list (s.first.map y6), .list (s.steps.map Z8), .list (s.facts.map Fact.enc)]]) (s.steps.length) ⟨[some 0], [], _, _, _, (by (simp only [Weak, go_sem, List.map_append, List.map_set, *] <;> (try simp (disch := omega) only [q9]) <;> (try simp) <;> (try omega))), 0, (by simp), (by simp), (by exact hG), rfl, rfl, rfl⟩ ?_; rintro _ _ _ _ ⟨i, rfl, hi, hP, rfl, rfl, rfl⟩
   clear hG
   by_cases hi2 : i < s.steps.length
   ·unfold W3 at hP
    rw [zHn hi2] at hP
    have hwi := hwl _ (w6 hi2)
    generalize hw : s.steps.getD i default = w at *
    by_cases hw0 : w.length = 0
    ·have hw0i : (w.length : Int) = 0 := by omega
     rw [if_pos hw0, if_neg (by decide)] at hP
     subst hP
     obtain ⟨rfl, rfl⟩ := hR.2 (by decide)
     clear hR
     repeat' (first | (show z3 ..; first | (refine Qr rfl ?_; try intro _ hK; try simp only [go_sem, *]) | (refine Qi rfl rfl rfl rfl (fun hb _ hK => ?_) (fun hb => ?_) <;> (have hc := hb; try simp only [go_sem] at hc; simp only [go_sem, *]))) | (show Hold ..; first | refine Qh rfl ?_ | refine q6 rfl mixed (by kernel_rfl) ?_ | (refine z7 rfl ⟨_, rfl, fun hb => ?_, fun hb => ?_⟩ <;> (have hc := hb; try simp only [go_sem] at hc)) | refine z8 rfl ?_) | (refine Qb ?_ ?_; focus kernel_rfl) | ((with_reducible refine And.intro ?_ ?_); focus omega) | (refine z6 hK ?_; clear hK; simp only [go_sem, *]) | (simp only [z5, z4, go_sem, *]))
     all_goals try contradiction
     (refine ⟨[_, _], [], [], ⟨rfl, rfl, trivial⟩, ?_⟩; simp only [go_sem, *])
    rw [if_neg hw0] at hP
    have hw0i : ¬ (w.length : Int) = 0 := by omega
    by_cases hw3 : 3 < w.length
    ·have hw3i : (w.length : Int) > 3 := by omega
     rw [if_pos hw3, if_neg (by decide)] at hP
     subst hP
     obtain ⟨rfl, rfl⟩ := hR.2 (by decide)
     clear hR
     repeat' (first | (show z3 ..; first | (refine Qr rfl ?_; try intro _ hK; try simp only [go_sem, *]) | (refine Qi rfl rfl rfl rfl (fun hb _ hK => ?_) (fun hb => ?_) <;> (have hc := hb; try simp only [go_sem] at hc; simp only [go_sem, *]))) | (show Hold ..; first | refine Qh rfl ?_ | refine q6 rfl mixed (by kernel_rfl) ?_ | (refine z7 rfl ⟨_, rfl, fun hb => ?_, fun hb => ?_⟩ <;> (have hc := hb; try simp only [go_sem] at hc)) | refine z8 rfl ?_) | (refine Qb ?_ ?_; focus kernel_rfl) | ((with_reducible refine And.intro ?_ ?_); focus omega) | (refine z6 hK ?_; clear hK; simp only [go_sem, *]) | (simp only [z5, z4, go_sem, *]))
     all_goals try contradiction
     (refine ⟨[_, _], [], [], ⟨rfl, rfl, trivial⟩, ?_⟩; simp only [go_sem, *])
    rw [if_neg hw3] at hP
    have hw3i : ¬ (w.length : Int) > 3 := by omega
    have hP0 : (if j1 (w.drop 0) = 0 then W3 s (s.steps.drop (i + 1)) else 8) = G := by
     rw [← hP, List.drop_zero]
     unfold W3
     split <;> rfl
    clear hP
    repeat' (first | (show z3 ..; first | (refine Qr rfl ?_; try intro _ hK; try simp only [go_sem, *]) | (refine Qi rfl rfl rfl rfl (fun hb _ hK => ?_) (fun hb => ?_) <;> (have hc := hb; try simp only [go_sem] at hc; simp only [go_sem, *]))) | (show Hold ..; first | refine Qh rfl ?_ | refine q6 rfl mixed (by kernel_rfl) ?_ | (refine z7 rfl ⟨_, rfl, fun hb => ?_, fun hb => ?_⟩ <;> (have hc := hb; try simp only [go_sem] at hc)) | refine z8 rfl ?_) | (refine Qb ?_ ?_; focus kernel_rfl) | ((with_reducible refine And.intro ?_ ?_); focus omega) | (refine z6 hK ?_; clear hK; simp only [go_sem, *]) | (simp only [z5, z4, go_sem, *]))
    all_goals try contradiction
    refine y8 rfl (fun zn zN zenv zAs => ∃ (j : Nat), zn = (w.length) - j ∧ j ≤ (w.length) ∧ ((if j1 (w.drop j) = 0 then W3 s (s.steps.drop (i + 1)) else 8) = G) ∧ zN = 96 ∧ zenv = [(40, iV j), (39, iV w.length), (38, .list (w.map Change.enc)), (25, iV i), (24, iV s.steps.length), (23, .list (s.steps.map Z8)), (1, .ptr 0 0)] ∧ zAs = [.box [.list (s.first.map y6), .list (s.steps.map Z8), .list (s.facts.map Fact.enc)]]) (w.length) ⟨[some 0], [], _, _, _, (by (simp only [Weak, go_sem, List.map_append, List.map_set, *] <;> (try simp (disch := omega) only [q9]) <;> (try simp) <;> (try omega))), 0, (by simp), (by simp), (by exact hP0), rfl, rfl, rfl⟩ ?_; rintro _ _ _ _ ⟨j, rfl, hj, hQ, rfl, rfl, rfl⟩
    by_cases hj : j < w.length
    ·rw [zH8 hj] at hQ
     have sb := t7 (w.getD j default).kind 1 7
     by_cases hbt : zLL (w.getD j default).kind 1 7 = true
     ·rw [if_pos hbt] at hQ
      rw [hbt] at sb
      repeat' (first | (show z3 ..; first | (refine Qr rfl ?_; try intro _ hK; try simp only [go_sem, *]) | (refine Qi rfl rfl rfl rfl (fun hb _ hK => ?_) (fun hb => ?_) <;> (have hc := hb; try simp only [go_sem] at hc; simp only [go_sem, *]))) | (show Hold ..; first | refine Qh rfl ?_ | refine q6 rfl mixed (by kernel_rfl) ?_ | (refine z7 rfl ⟨_, rfl, fun hb => ?_, fun hb => ?_⟩ <;> (have hc := hb; try simp only [go_sem] at hc)) | refine z8 rfl ?_) | (refine Qb ?_ ?_; focus kernel_rfl) | (show q7 ..; first | (refine q8 (sb) ?_ ?_; (focus (simp only [go_sem, *]; done)); simp only [go_sem, *])) | ((with_reducible refine And.intro ?_ ?_); focus omega) | (refine z6 hK ?_; clear hK; simp only [go_sem, *]) | (simp only [z5, z4, go_sem, *]))
      all_goals try contradiction
      refine ⟨_, (by omega), [some 0], [], _, _, _, (by (simp only [Weak, go_sem, List.map_append, List.map_set, *] <;> (try simp (disch := omega) only [q9]) <;> (try simp) <;> (try omega))), j + 1, rfl, (by omega), (by exact hQ), rfl, rfl, rfl⟩
     ·rw [if_neg hbt, if_neg (by decide)] at hQ
      rw [Bool.not_eq_true] at hbt
      rw [hbt] at sb
      subst hQ
      obtain ⟨rfl, rfl⟩ := hR.2 (by decide)
      clear hR
      repeat' (first | (show z3 ..; first | (refine Qr rfl ?_; try intro _ hK; try simp only [go_sem, *]) | (refine Qi rfl rfl rfl rfl (fun hb _ hK => ?_) (fun hb => ?_) <;> (have hc := hb; try simp only [go_sem] at hc; simp only [go_sem, *]))) | (show Hold ..; first | refine Qh rfl ?_ | refine q6 rfl mixed (by kernel_rfl) ?_ | (refine z7 rfl ⟨_, rfl, fun hb => ?_, fun hb => ?_⟩ <;> (have hc := hb; try simp only [go_sem] at hc)) | refine z8 rfl ?_) | (refine Qb ?_ ?_; focus kernel_rfl) | (show q7 ..; first | (refine q8 (sb) ?_ ?_; (focus (simp only [go_sem, *]; done)); simp only [go_sem, *])) | ((with_reducible refine And.intro ?_ ?_); focus omega) | (refine z6 hK ?_; clear hK; simp only [go_sem, *]) | (simp only [z5, z4, go_sem, *]))
      all_goals try contradiction
      (refine ⟨[_, _], [], [], ⟨rfl, rfl, trivial⟩, ?_⟩; simp only [go_sem, *])
    ·rw [v4 (by omega), j1, if_pos rfl] at hQ
     repeat' (first | (show z3 ..; first | (refine Qr rfl ?_; try intro _ hK; try simp only [go_sem, *]) | (refine Qi rfl rfl rfl rfl (fun hb _ hK => ?_) (fun hb => ?_) <;> (have hc := hb; try simp only [go_sem] at hc; simp only [go_sem, *]))) | (show Hold ..; first | refine Qh rfl ?_ | refine q6 rfl mixed (by kernel_rfl) ?_ | (refine z7 rfl ⟨_, rfl, fun hb => ?_, fun hb => ?_⟩ <;> (have hc := hb; try simp only [go_sem] at hc)) | refine z8 rfl ?_) | (refine Qb ?_ ?_; focus kernel_rfl) | ((with_reducible refine And.intro ?_ ?_); focus omega) | (refine z6 hK ?_; clear hK; simp only [go_sem, *]) | (simp only [z5, z4, go_sem, *]))
     refine ⟨_, (by omega), [some 0], [], _, _, _, (by (simp only [Weak, go_sem, List.map_append, List.map_set, *] <;> (try simp (disch := omega) only [q9]) <;> (try simp) <;> (try omega))), i + 1, rfl, (by omega), (by exact hQ), rfl, rfl, rfl⟩
   ·rw [v4 (by omega), W3, Z6, if_pos rfl] at hP
    by_cases hf4 : 4 < s.facts.length
    ·have hf4i : (s.facts.length : Int) > 4 := by omega
     rw [J2, if_pos hf4] at hP
     subst hP
     obtain ⟨rfl, rfl⟩ := hR.2 (by decide)
     clear hR
     repeat' (first | (show z3 ..; first | (refine Qr rfl ?_; try intro _ hK; try simp only [go_sem, *]) | (refine Qi rfl rfl rfl rfl (fun hb _ hK => ?_) (fun hb => ?_) <;> (have hc := hb; try simp only [go_sem] at hc; simp only [go_sem, *]))) | (show Hold ..; first | refine Qh rfl ?_ | refine q6 rfl mixed (by kernel_rfl) ?_ | (refine z7 rfl ⟨_, rfl, fun hb => ?_, fun hb => ?_⟩ <;> (have hc := hb; try simp only [go_sem] at hc)) | refine z8 rfl ?_) | (refine Qb ?_ ?_; focus kernel_rfl) | ((with_reducible refine And.intro ?_ ?_); focus omega) | (refine z6 hK ?_; clear hK; simp only [go_sem, *]) | (simp only [z5, z4, go_sem, *]))
     all_goals try contradiction
     (refine ⟨[_, _], [], [], ⟨rfl, rfl, trivial⟩, ?_⟩; simp only [go_sem, *])
    have hf4i : ¬ (s.facts.length : Int) > 4 := by omega
    rw [J2, if_neg hf4] at hP
    repeat' (first | (show z3 ..; first | (refine Qr rfl ?_; try intro _ hK; try simp only [go_sem, *]) | (refine Qi rfl rfl rfl rfl (fun hb _ hK => ?_) (fun hb => ?_) <;> (have hc := hb; try simp only [go_sem] at hc; simp only [go_sem, *]))) | (show Hold ..; first | refine Qh rfl ?_ | refine q6 rfl mixed (by kernel_rfl) ?_ | (refine z7 rfl ⟨_, rfl, fun hb => ?_, fun hb => ?_⟩ <;> (have hc := hb; try simp only [go_sem] at hc)) | refine z8 rfl ?_) | (refine Qb ?_ ?_; focus kernel_rfl) | (show q7 ..; first | (refine v5 (zCU v) ?_ ?_ ?_ ?_; (focus (simp only [go_sem, *]; done)); (focus (first | (simp; done) | (simp [go_sem]; done))); (focus (first | (simp; done) | (simp [go_sem]; done))); simp only [go_sem, *])) | ((with_reducible refine And.intro ?_ ?_); focus omega) | (refine z6 hK ?_; clear hK; simp only [go_sem, *]) | (simp only [z5, z4, go_sem, *]))
    all_goals try contradiction
    clear hi2 hi
    refine y8 rfl (fun zn zN zenv zAs => ∃ (k : Nat), zn = (s.facts.length) - k ∧ k ≤ (s.facts.length) ∧ (b9 s.first (s.facts.drop k) = G) ∧ zN = 96 ∧ zenv = [(63, iV k), (62, iV s.facts.length), (61, .list (s.facts.map Fact.enc)), (9, .ptr 1 0), (1, .ptr 0 0)] ∧ zAs = [.box [.list (s.first.map y6), .list (s.steps.map Z8), .list (s.facts.map Fact.enc)], .box [.list (s.first.map y6), .list (s.steps.map Z8), .list (s.facts.map Fact.enc), .list ((y4 s.first).map House.enc)]]) (s.facts.length) ⟨[some 0, some 2], [1], _, _, _, (by (simp only [Weak, go_sem, List.map_append, List.map_set, *] <;> (try simp (disch := omega) only [q9]) <;> (try simp) <;> (try omega))), 0, (by simp), (by simp), (by exact hP), rfl, rfl, rfl⟩ ?_; rintro _ _ _ _ ⟨k, rfl, hk, hQ, rfl, rfl, rfl⟩
    by_cases hk : k < s.facts.length
    ·rw [zDy hk] at hQ
     have hcn := v.count
     have hln := v.len
     have hwp : IntKind.i64.wrap ((s.first.length : Int) - 1) = (s.first.length : Int) - 1 := wrap_i64 (by omega) (by omega)
     have s1 := zAJ (y4 s.first) (s.facts.getD k default).src (by omega)
     have s2 := t7 (s.facts.getD k default).dst.street 0 ((s.first.length : Int) - 1)
     have s3 := zCa (s.facts.getD k default).dst.plate
     by_cases q1 : (s.facts.getD k default).src ∈ y4 s.first
     ·by_cases q2 : zLL (s.facts.getD k default).dst.street 0 ((s.first.length : Int) - 1) = true
      ·rw [if_pos ⟨q1, q2⟩] at hQ
       have q1' : decide ((s.facts.getD k default).src ∈ y4 s.first) = true := by simpa using q1
       rw [q1'] at s1
       rw [q2] at s2
       by_cases q3 : (s.facts.getD k default).dst.plate.ok = true
       ·rw [if_pos q3] at hQ
        rw [q3] at s3
        clear q1 q1' q2 q3
        repeat' (first | (show z3 ..; first | (refine Qr rfl ?_; try intro _ hK; try simp only [go_sem, *]) | (refine Qi rfl rfl rfl rfl (fun hb _ hK => ?_) (fun hb => ?_) <;> (have hc := hb; try simp only [go_sem] at hc; simp only [go_sem, *]))) | (show Hold ..; first | refine Qh rfl ?_ | refine q6 rfl mixed (by kernel_rfl) ?_ | (refine z7 rfl ⟨_, rfl, fun hb => ?_, fun hb => ?_⟩ <;> (have hc := hb; try simp only [go_sem] at hc)) | refine z8 rfl ?_) | (refine Qb ?_ ?_; focus kernel_rfl) | (show q7 ..; first | ((first | refine q8 (s1) ?_ ?_ | refine q8 (s2) ?_ ?_ | refine q8 (s3) ?_ ?_); (focus (simp only [go_sem, *]; done)); simp only [go_sem, *])) | ((with_reducible refine And.intro ?_ ?_); focus omega) | (refine z6 hK ?_; clear hK; simp only [go_sem, *]) | (simp only [z5, z4, go_sem, *]))
        all_goals try contradiction
        refine ⟨_, (by omega), [some 0, some 1], [], _, _, _, (by (simp only [Weak, go_sem, List.map_append, List.map_set, *] <;> (try simp (disch := omega) only [q9]) <;> (try simp) <;> (try omega))), k + 1, rfl, (by omega), (by exact hQ), rfl, rfl, rfl⟩
       ·rw [if_neg q3] at hQ
        rw [Bool.not_eq_true] at q3
        rw [q3] at s3
        clear q1 q1' q2 q3
        subst hQ
        obtain ⟨rfl, rfl⟩ := hR.2 (by decide)
        clear hR
        repeat' (first | (show z3 ..; first | (refine Qr rfl ?_; try intro _ hK; try simp only [go_sem, *]) | (refine Qi rfl rfl rfl rfl (fun hb _ hK => ?_) (fun hb => ?_) <;> (have hc := hb; try simp only [go_sem] at hc; simp only [go_sem, *]))) | (show Hold ..; first | refine Qh rfl ?_ | refine q6 rfl mixed (by kernel_rfl) ?_ | (refine z7 rfl ⟨_, rfl, fun hb => ?_, fun hb => ?_⟩ <;> (have hc := hb; try simp only [go_sem] at hc)) | refine z8 rfl ?_) | (refine Qb ?_ ?_; focus kernel_rfl) | (show q7 ..; first | ((first | refine q8 (s1) ?_ ?_ | refine q8 (s2) ?_ ?_ | refine q8 (s3) ?_ ?_); (focus (simp only [go_sem, *]; done)); simp only [go_sem, *])) | ((with_reducible refine And.intro ?_ ?_); focus omega) | (refine z6 hK ?_; clear hK; simp only [go_sem, *]) | (simp only [z5, z4, go_sem, *]))
        all_goals try contradiction
        (refine ⟨[_, _], [], [], ⟨rfl, rfl, trivial⟩, ?_⟩; simp only [go_sem, *])
      ·rw [if_neg (fun h => q2 h.2)] at hQ
       have q1' : decide ((s.facts.getD k default).src ∈ y4 s.first) = true := by simpa using q1
       rw [q1'] at s1
       rw [Bool.not_eq_true] at q2
       rw [q2] at s2
       clear q1 q1' q2
       subst hQ
       obtain ⟨rfl, rfl⟩ := hR.2 (by decide)
       clear hR
       repeat' (first | (show z3 ..; first | (refine Qr rfl ?_; try intro _ hK; try simp only [go_sem, *]) | (refine Qi rfl rfl rfl rfl (fun hb _ hK => ?_) (fun hb => ?_) <;> (have hc := hb; try simp only [go_sem] at hc; simp only [go_sem, *]))) | (show Hold ..; first | refine Qh rfl ?_ | refine q6 rfl mixed (by kernel_rfl) ?_ | (refine z7 rfl ⟨_, rfl, fun hb => ?_, fun hb => ?_⟩ <;> (have hc := hb; try simp only [go_sem] at hc)) | refine z8 rfl ?_) | (refine Qb ?_ ?_; focus kernel_rfl) | (show q7 ..; first | ((first | refine q8 (s1) ?_ ?_ | refine q8 (s2) ?_ ?_ | refine q8 (s3) ?_ ?_); (focus (simp only [go_sem, *]; done)); simp only [go_sem, *])) | ((with_reducible refine And.intro ?_ ?_); focus omega) | (refine z6 hK ?_; clear hK; simp only [go_sem, *]) | (simp only [z5, z4, go_sem, *]))
       all_goals try contradiction
       (refine ⟨[_, _], [], [], ⟨rfl, rfl, trivial⟩, ?_⟩; simp only [go_sem, *])
     ·rw [if_neg (fun h => q1 h.1)] at hQ
      have q1' : decide ((s.facts.getD k default).src ∈ y4 s.first) = false := by simpa using q1
      rw [q1'] at s1
      clear q1 q1'
      subst hQ
      obtain ⟨rfl, rfl⟩ := hR.2 (by decide)
      clear hR
      repeat' (first | (show z3 ..; first | (refine Qr rfl ?_; try intro _ hK; try simp only [go_sem, *]) | (refine Qi rfl rfl rfl rfl (fun hb _ hK => ?_) (fun hb => ?_) <;> (have hc := hb; try simp only [go_sem] at hc; simp only [go_sem, *]))) | (show Hold ..; first | refine Qh rfl ?_ | refine q6 rfl mixed (by kernel_rfl) ?_ | (refine z7 rfl ⟨_, rfl, fun hb => ?_, fun hb => ?_⟩ <;> (have hc := hb; try simp only [go_sem] at hc)) | refine z8 rfl ?_) | (refine Qb ?_ ?_; focus kernel_rfl) | (show q7 ..; first | ((first | refine q8 (s1) ?_ ?_ | refine q8 (s2) ?_ ?_ | refine q8 (s3) ?_ ?_); (focus (simp only [go_sem, *]; done)); simp only [go_sem, *])) | ((with_reducible refine And.intro ?_ ?_); focus omega) | (refine z6 hK ?_; clear hK; simp only [go_sem, *]) | (simp only [z5, z4, go_sem, *]))
      all_goals try contradiction
      (refine ⟨[_, _], [], [], ⟨rfl, rfl, trivial⟩, ?_⟩; simp only [go_sem, *])
    ·rw [v4 (by omega), b9] at hQ
     obtain ⟨rfl, rfl⟩ := hR.1 hQ.symm
     clear hR
     repeat' (first | (show z3 ..; first | (refine Qr rfl ?_; try intro _ hK; try simp only [go_sem, *]) | (refine Qi rfl rfl rfl rfl (fun hb _ hK => ?_) (fun hb => ?_) <;> (have hc := hb; try simp only [go_sem] at hc; simp only [go_sem, *]))) | (show Hold ..; first | refine Qh rfl ?_ | refine q6 rfl mixed (by kernel_rfl) ?_ | (refine z7 rfl ⟨_, rfl, fun hb => ?_, fun hb => ?_⟩ <;> (have hc := hb; try simp only [go_sem] at hc)) | refine z8 rfl ?_) | (refine Qb ?_ ?_; focus kernel_rfl) | ((with_reducible refine And.intro ?_ ?_); focus omega) | (refine z6 hK ?_; clear hK; simp only [go_sem, *]) | (simp only [z5, z4, go_sem, *]))
     refine ⟨[_, _], [some 1], [], ⟨rfl, rfl, trivial⟩, ?_⟩
     simp only [go_sem, *]
 ·have e : (check s.first == 0) = false := by simpa using hc0
  have e2 : (check s.first != 0) = true := by simpa using hc0
  rw [r4, if_neg hc0] at hG
  obtain ⟨rfl, rfl⟩ := hR.2 (by rw [← hG]; exact hc0)
  subst hG
  clear hR hc0
  generalize check s.first = k at *
  refine y3 func138 rfl (fun E hE => ?_); simp only [go_sem, ntmps138]
  repeat' (first | (show z3 ..; first | (refine Qr rfl ?_; try intro _ hK; try simp only [go_sem, *]) | (refine Qi rfl rfl rfl rfl (fun hb _ hK => ?_) (fun hb => ?_) <;> (have hc := hb; try simp only [go_sem] at hc; simp only [go_sem, *]))) | (show Hold ..; first | refine Qh rfl ?_ | refine q6 rfl mixed (by kernel_rfl) ?_ | (refine z7 rfl ⟨_, rfl, fun hb => ?_, fun hb => ?_⟩ <;> (have hc := hb; try simp only [go_sem] at hc)) | refine z8 rfl ?_) | (refine Qb ?_ ?_; focus kernel_rfl) | (show q7 ..; first | (refine q8 (sc) ?_ ?_; (focus (simp only [go_sem, *]; done)); simp only [go_sem, *])) | ((with_reducible refine And.intro ?_ ?_); focus omega) | (refine z6 hK ?_; clear hK; simp only [go_sem, *]) | (simp only [z5, z4, go_sem, *]))
  all_goals try contradiction
  all_goals (refine ⟨[_, _], [], [], ⟨rfl, rfl, trivial⟩, ?_⟩; simp only [go_sem, *])
end Go.Abs

namespace Go.Abs
open Go Go.Proofs Tryz
attribute [local irreducible] z3 Hold q7
structure Truth where
 ways : List Int
 fin : zLI
 now : House → List House
@[reducible] def Truth.enc (p : zLI) (t : Truth) : AV := .agg [.list (t.ways.map iV), .list (t.fin.map y6), .fmap (w5 p) (w4 p t.now)]
attribute [go_sem] Truth.enc
def Q0 (l : List Fact) (t : Truth) : Bool := l.all fun f => decide (f.dst ∈ t.now f.src)
theorem zD1 {l : List Fact} {t : Truth} {i : Nat} (h : i < l.length) : Q0 (l.drop i) t = (decide ((l.getD i default).dst ∈ t.now (l.getD i default).src) && Q0 (l.drop (i + 1)) t) := by
 rw [v3 h]; simp [Q0]
theorem zHC (s : Story) (t : Truth) (v : Valid s.first) (hf : s.facts.length ≤ 1000) (hsrc : ∀ f, f ∈ s.facts → f.src ∈ y4 s.first) (hnl : ∀ h, h ∈ y4 s.first → (t.now h).length ≤ 1000) (b : Bool) (hb0 : Q0 (s.facts.drop 0) t = b) :
  zLJ prog 163 [.ptr 0 0, t.enc s.first] [o5 s] (bV b) [o5 s] := by
 have hw := v.wf
 refine y3 func163 rfl (fun E hE => ?_); simp only [go_sem, ntmps163]
 repeat' (first | (show z3 ..; first | (refine Qr rfl ?_; try intro _ hK; try simp only [go_sem, *])) | (show Hold ..; first | refine Qh rfl ?_ | refine q6 rfl mixed (by kernel_rfl) ?_ | (refine z7 rfl ⟨_, rfl, fun hb => ?_, fun hb => ?_⟩ <;> (have hc := hb; try simp only [go_sem] at hc)) | refine z8 rfl ?_) | (refine Qb ?_ ?_; focus kernel_rfl) | ((with_reducible refine And.intro ?_ ?_); focus omega) | (refine z6 hK ?_; clear hK; simp only [go_sem, *]) | (simp only [z5, z4, go_sem, *]))
 refine y8 rfl (fun zn zN zenv zAs => ∃ (i : Nat), zn = (s.facts.length) - i ∧ i ≤ (s.facts.length) ∧ (Q0 (s.facts.drop i) t = b) ∧ zN = 27 ∧ zenv = [(13, iV i), (12, iV s.facts.length), (11, .list (s.facts.map Fact.enc)), (3, .ptr 1 0)] ∧ zAs = [o5 s, .box [.list (t.ways.map iV), .list (t.fin.map y6), .fmap (w5 s.first) (w4 s.first t.now)]]) (s.facts.length) ⟨[some 0, some 1], [], _, _, _, (by (simp only [Weak, go_sem, List.map_append, List.map_set, *] <;> (try simp (disch := omega) only [q9]) <;> (try simp) <;> (try omega))), 0, (by simp), (by simp), (by exact hb0), rfl, rfl, rfl⟩ ?_; rintro _ _ _ _ ⟨i, rfl, hi, hP, rfl, rfl, rfl⟩
 by_cases hi2 : i < s.facts.length
 ·rw [zD1 hi2] at hP
  have hm := hsrc _ (w6 hi2)
  have hl := hnl _ hm
  have hwf := hw _ hm
  have sc := zAJ (t.now (s.facts.getD i default).src) (s.facts.getD i default).dst (by omega)
  by_cases q : (s.facts.getD i default).dst ∈ t.now (s.facts.getD i default).src
  ·have q' : decide ((s.facts.getD i default).dst ∈ t.now (s.facts.getD i default).src) = true := by simpa using q
   rw [q', Bool.true_and] at hP
   rw [q'] at sc
   clear q q'
   repeat' (first | (show z3 ..; first | (refine Qr rfl ?_; try intro _ hK; try simp only [go_sem, *])) | (show Hold ..; first | refine Qh rfl ?_ | refine q6 rfl mixed (by kernel_rfl) ?_ | (refine z7 rfl ⟨_, rfl, fun hb => ?_, fun hb => ?_⟩ <;> (have hc := hb; try simp only [go_sem] at hc)) | refine z8 rfl ?_) | (refine Qb ?_ ?_; focus kernel_rfl) | ((with_reducible refine And.intro ?_ ?_); focus omega) | (refine z6 hK ?_; clear hK; simp only [go_sem, *]) | (simp only [z5, z4, go_sem, *]))
   refine X5 (h := (s.facts.getD i default).src) (hs := y4 s.first) (F := zLN t.now) hw hwf ?_
   rw [if_pos hm, zLN]
   repeat' (first | (show z3 ..; first | (refine Qr rfl ?_; try intro _ hK; try simp only [go_sem, *])) | (show Hold ..; first | refine Qh rfl ?_ | refine q6 rfl mixed (by kernel_rfl) ?_ | (refine z7 rfl ⟨_, rfl, fun hb => ?_, fun hb => ?_⟩ <;> (have hc := hb; try simp only [go_sem] at hc)) | refine z8 rfl ?_) | (refine Qb ?_ ?_; focus kernel_rfl) | (show q7 ..; first | (refine q8 (sc) ?_ ?_; (focus (simp only [go_sem, *]; done)); simp only [go_sem, *])) | ((with_reducible refine And.intro ?_ ?_); focus omega) | (refine z6 hK ?_; clear hK; simp only [go_sem, *]) | (simp only [z5, z4, go_sem, *]))
   all_goals try contradiction
   refine ⟨_, (by omega), [some 0, some 1], [], _, _, _, (by (simp only [Weak, go_sem, List.map_append, List.map_set, *] <;> (try simp (disch := omega) only [q9]) <;> (try simp) <;> (try omega))), i + 1, rfl, (by omega), (by exact hP), rfl, rfl, rfl⟩
  ·have q' : decide ((s.facts.getD i default).dst ∈ t.now (s.facts.getD i default).src) = false := by simpa using q
   rw [q', Bool.false_and] at hP
   rw [q'] at sc
   clear q q'
   subst hP
   repeat' (first | (show z3 ..; first | (refine Qr rfl ?_; try intro _ hK; try simp only [go_sem, *])) | (show Hold ..; first | refine Qh rfl ?_ | refine q6 rfl mixed (by kernel_rfl) ?_ | (refine z7 rfl ⟨_, rfl, fun hb => ?_, fun hb => ?_⟩ <;> (have hc := hb; try simp only [go_sem] at hc)) | refine z8 rfl ?_) | (refine Qb ?_ ?_; focus kernel_rfl) | ((with_reducible refine And.intro ?_ ?_); focus omega) | (refine z6 hK ?_; clear hK; simp only [go_sem, *]) | (simp only [z5, z4, go_sem, *]))
   refine X5 (h := (s.facts.getD i default).src) (hs := y4 s.first) (F := zLN t.now) hw hwf ?_
   rw [if_pos hm, zLN]
   repeat' (first | (show z3 ..; first | (refine Qr rfl ?_; try intro _ hK; try simp only [go_sem, *])) | (show Hold ..; first | refine Qh rfl ?_ | refine q6 rfl mixed (by kernel_rfl) ?_ | (refine z7 rfl ⟨_, rfl, fun hb => ?_, fun hb => ?_⟩ <;> (have hc := hb; try simp only [go_sem] at hc)) | refine z8 rfl ?_) | (refine Qb ?_ ?_; focus kernel_rfl) | (show q7 ..; first | (refine q8 (sc) ?_ ?_; (focus (simp only [go_sem, *]; done)); simp only [go_sem, *])) | ((with_reducible refine And.intro ?_ ?_); focus omega) | (refine z6 hK ?_; clear hK; simp only [go_sem, *]) | (simp only [z5, z4, go_sem, *]))
   all_goals try contradiction
   refine ⟨[_], [some 0], [], ⟨rfl, trivial⟩, ?_⟩
   simp only [go_sem, *]
 ·rw [v4 (by omega)] at hP
  subst hP
  repeat' (first | (show z3 ..; first | (refine Qr rfl ?_; try intro _ hK; try simp only [go_sem, *])) | (show Hold ..; first | refine Qh rfl ?_ | refine q6 rfl mixed (by kernel_rfl) ?_ | (refine z7 rfl ⟨_, rfl, fun hb => ?_, fun hb => ?_⟩ <;> (have hc := hb; try simp only [go_sem] at hc)) | refine z8 rfl ?_) | (refine Qb ?_ ?_; focus kernel_rfl) | ((with_reducible refine And.intro ?_ ?_); focus omega) | (refine z6 hK ?_; clear hK; simp only [go_sem, *]) | (simp only [z5, z4, go_sem, *]))
  refine ⟨[_], [some 0], [], ⟨rfl, trivial⟩, ?_⟩
  simp only [go_sem, *]
  simp [Q0]
end Go.Abs

namespace Go.Abs
open Go
instance : Inhabited Truth := ⟨⟨[], [], fun _ => []⟩⟩
def s7 (s : Story) (k : Nat) : List Change := s.steps.getD k default
def j7 (t : Truth) (c : Change) (i : Nat) : Truth := ⟨t.ways ++ [(i : Int)], u4 t.fin c, W5 t.now (mv t.fin c)⟩
def p4 (s : Story) : Nat → Truth → List Truth
 | 0, t => if Q0 s.facts t = true then [t] else []
 | n + 1, t => (List.range' 0 (s7 s t.ways.length).length).flatMap fun i => if can t.fin ((s7 s t.ways.length).getD i default) = 0 then p4 s n (j7 t ((s7 s t.ways.length).getD i default) i) else []
def l7 (s : Story) (n : Nat) (t : Truth) (i : Nat) : List Truth :=
 (List.range' i ((s7 s t.ways.length).length - i)).flatMap fun i => if can t.fin ((s7 s t.ways.length).getD i default) = 0 then p4 s n (j7 t ((s7 s t.ways.length).getD i default) i) else []
theorem C4 {s : Story} {t : Truth} : p4 s 0 t = if Q0 s.facts t = true then [t] else [] := by rw [p4]
theorem zEh {s : Story} {n : Nat} {t : Truth} : p4 s (n + 1) t = l7 s n t 0 := by rw [p4, l7, Nat.sub_zero]
theorem zBL {s : Story} {n i : Nat} {t : Truth} (h : i < (s7 s t.ways.length).length) :
  l7 s n t i = (if can t.fin ((s7 s t.ways.length).getD i default) = 0 then p4 s n (j7 t ((s7 s t.ways.length).getD i default) i) else []) ++ l7 s n t (i + 1) := by
 unfold l7
 rw [show (s7 s t.ways.length).length - i = ((s7 s t.ways.length).length - (i + 1)) + 1 by omega, List.range'_succ, List.flatMap_cons]
theorem zEg {s : Story} {n i : Nat} {t : Truth} (h : i < (s7 s t.ways.length).length) (hc : can t.fin ((s7 s t.ways.length).getD i default) = 0) :
  l7 s n t i = p4 s n (j7 t ((s7 s t.ways.length).getD i default) i) ++ l7 s n t (i + 1) := by rw [zBL h, if_pos hc]
theorem zEf {s : Story} {n i : Nat} {t : Truth} (h : i < (s7 s t.ways.length).length) (hc : can t.fin ((s7 s t.ways.length).getD i default) ≠ 0) :
  l7 s n t i = l7 s n t (i + 1) := by rw [zBL h, if_neg hc, List.nil_append]
theorem zEe {s : Story} {n i : Nat} {t : Truth} (h : (s7 s t.ways.length).length ≤ i) : l7 s n t i = [] := by
 unfold l7
 rw [show (s7 s t.ways.length).length - i = 0 by omega]; rfl
def Y9 (s : Story) : Truth := ⟨[], s.first, fun h => [h]⟩
def t8 (s : Story) : List Truth := p4 s s.steps.length (Y9 s)
structure TOk (s : Story) (n : Nat) (t : Truth) : Prop where
 steps : t.ways.length + n = s.steps.length
 val : Valid t.fin
 town : t.fin.length = s.first.length
 strict : ∀ h, h ∈ y4 s.first → Strict (t.now h)
 mem : ∀ h, h ∈ y4 s.first → ∀ x, x ∈ t.now h → x ∈ y4 t.fin
 len : ∀ h, h ∈ y4 s.first → (t.now h).length ≤ 2 ^ t.ways.length
theorem zBA {s : Story} (v : Valid s.first) : TOk s s.steps.length (Y9 s) where
 steps := by simp [Y9]
 val := v
 town := rfl
 strict := fun h _ => by simp [Y9]
 mem := fun h hh x hx => by
  have : x = h := by simpa [Y9] using hx
  rw [this]; exact hh
 len := fun h _ => by simp [Y9]
theorem TOk.flat_nodup {s : Story} {n : Nat} {t : Truth} (o : TOk s n t) {c : Change} (f : Fit t.fin c) {h : House} (hh : h ∈ y4 s.first) : ((t.now h).flatMap (mv t.fin c)).Nodup :=
 A7 (o.strict h hh).nodup (fun a ha => zBw f (o.mem h hh a ha)) (fun a b ha hb z hz1 hz2 => zBu o.val f (o.mem h hh a ha) (o.mem h hh b hb) hz1 hz2)
theorem flat_len {f : House → List House} (hf : ∀ h, (f h).length ≤ 2) : ∀ l : List House, (l.flatMap f).length ≤ 2 * l.length
 | [] => by simp
 | x :: r => by
  have := flat_len hf r
  have := hf x
  simp only [List.flatMap_cons, List.length_append, List.length_cons]; omega
theorem TOk.flat_len {s : Story} {n : Nat} {t : Truth} (o : TOk s n t) {c : Change} (f : Fit t.fin c) {h : House} (hh : h ∈ y4 s.first) : ((t.now h).flatMap (mv t.fin c)).length ≤ 2 * 2 ^ t.ways.length := by
 have := Go.Abs.flat_len (fun x => A6 f x) (t.now h)
 have := o.len h hh
 omega
theorem TOk.next {s : Story} {n : Nat} {t : Truth} (o : TOk s (n + 1) t) {c : Change} (hc : can t.fin c = 0) (i : Nat) : TOk s n (j7 t c i) := by
 have f := Fit.of_can hc
 have hn : ∀ h, (j7 t c i).now h = w8 ((t.now h).flatMap (mv t.fin c)) := fun _ => rfl
 refine ⟨?_, zCu o.val f, ?_, fun h hh => ?_, fun h hh x hx => ?_, fun h hh => ?_⟩
 ·have := o.steps; simp [j7]; omega
 ·have := o.town
  simp only [j7, u4, R4]; exact this
 ·rw [hn]; exact U5 _
 ·rw [hn, mem_sortH] at hx
  obtain ⟨a, ha, hx⟩ := List.mem_flatMap.1 hx
  show x ∈ y4 (u4 t.fin c)
  rw [zE8 o.val f, mem_sortH]
  exact mem_flatMv.2 ⟨a, o.mem h hh a ha, hx⟩
 ·rw [hn]
  have h1 := R8 (U5 ((t.now h).flatMap (mv t.fin c))).nodup (b := (t.now h).flatMap (mv t.fin c)) (fun x hx => mem_sortH.1 hx)
  have h2 := o.flat_len f hh
  have : (j7 t c i).ways.length = t.ways.length + 1 := by simp [j7]
  rw [this, Nat.pow_succ]; omega
theorem TOk.small {s : Story} {n : Nat} {t : Truth} (o : TOk s n t) (h3 : s.steps.length ≤ 3) {h : House} (hh : h ∈ y4 s.first) : (t.now h).length ≤ 8 := by
 have h1 := o.len h hh
 have h2 : t.ways.length ≤ 3 := by have := o.steps; omega
 have : 2 ^ t.ways.length ≤ 2 ^ 3 := Nat.pow_le_pow_right (by omega) h2
 omega
theorem TOk.small2 {s : Story} {n : Nat} {t : Truth} (o : TOk s (n + 1) t) (h3 : s.steps.length ≤ 3) {c : Change} (f : Fit t.fin c) {h : House} (hh : h ∈ y4 s.first) : ((t.now h).flatMap (mv t.fin c)).length ≤ 8 := by
 have h1 := o.flat_len f hh
 have h2 : t.ways.length ≤ 2 := by have := o.steps; omega
 have : 2 ^ t.ways.length ≤ 2 ^ 2 := Nat.pow_le_pow_right (by omega) h2
 omega
theorem zBN {s : Story} : ∀ (n : Nat) {t : Truth}, TOk s n t → ∀ x, x ∈ p4 s n t → TOk s 0 x
 | 0, t, o, x, hx => by
  rw [C4] at hx
  split at hx
  ·have : x = t := by simpa using hx
   rw [this]; exact o
  ·simp at hx
 | n + 1, t, o, x, hx => by
  rw [p4] at hx
  obtain ⟨i, _, hx⟩ := List.mem_flatMap.1 hx
  split at hx
  ·rename_i hc
   exact zBN n (o.next hc i) x hx
  ·simp at hx
theorem zBM {s : Story} (hw : ∀ w, w ∈ s.steps → w.length ≤ 3) : ∀ (n : Nat) (t : Truth), (p4 s n t).length ≤ 3 ^ n
 | 0, t => by
  rw [C4]
  split <;> simp
 | n + 1, t => by
  rw [p4]
  have hl : (s7 s t.ways.length).length ≤ 3 := by
   unfold s7
   by_cases h : t.ways.length < s.steps.length
   ·exact hw _ (w6 h)
   ·have e : s.steps[t.ways.length]? = none := List.getElem?_eq_none (by omega)
    simp only [List.getD, e, Option.getD_none]; show ([] : List Change).length ≤ 3; simp
  have key : ∀ (k i : Nat) (g : Nat → List Truth), (∀ i, (g i).length ≤ 3 ^ n) → ((List.range' i k).flatMap g).length ≤ k * 3 ^ n := by
   intro k
   induction k with
   | zero => intro i g _; simp
   | succ k ih =>
    intro i g hg
    rw [List.range'_succ, List.flatMap_cons, List.length_append, Nat.succ_mul]
    have := ih (i + 1) g hg
    have := hg i
    omega
  refine Nat.le_trans (key _ 0 _ (fun i => ?_)) (Nat.le_trans (Nat.mul_le_mul_right (3 ^ n) hl) (by rw [Nat.pow_succ]; omega))
  split
  ·exact zBM hw n _
  ·simp
theorem zCs {s : Story} (v : Valid s.first) : ∀ x, x ∈ t8 s → TOk s 0 x := zBN _ (zBA v)
theorem K3 {s : Story} (h3 : s.steps.length ≤ 3) (hw : ∀ w, w ∈ s.steps → w.length ≤ 3) : (t8 s).length ≤ 27 :=
 Nat.le_trans (zBM hw _ _) (Nat.pow_le_pow_right (by omega) h3 : 3 ^ s.steps.length ≤ 3 ^ 3)
theorem zH9 : ∀ {l : List Change}, j1 l = 0 ↔ ∀ c, c ∈ l → zLL c.kind 1 7 = true
 | [] => by simp [j1]
 | c :: r => by
  rw [j1]
  split
  ·rename_i h; rw [zH9]; simp [h]
  ·rename_i h
   constructor
   ·intro e; omega
   ·intro e; exact absurd (e c (by simp)) h
theorem stepsErr_zero : ∀ {l : List (List Change)}, Z6 l = 0 ↔ ∀ w, w ∈ l → 0 < w.length ∧ w.length ≤ 3 ∧ j1 w = 0
 | [] => by simp [Z6]
 | w :: r => by
  rw [Z6]
  split
  ·rename_i h
   constructor
   ·intro e; omega
   ·intro e; have := e w (by simp); omega
  ·split
   ·rename_i h
    constructor
    ·intro e; omega
    ·intro e; have := e w (by simp); omega
   ·split
    ·rename_i h1 h2 h3
     rw [stepsErr_zero]
     constructor
     ·intro e x hx
      rcases List.mem_cons.1 hx with rfl | hx
      ·exact ⟨by omega, by omega, h3⟩
      ·exact e x hx
     ·intro e x hx; exact e x (by simp [hx])
    ·rename_i h3
     constructor
     ·intro e; omega
     ·intro e; exact absurd (e w (by simp)).2.2 h3
theorem factsErr_zero {p : zLI} : ∀ {l : List Fact}, b9 p l = 0 ↔ ∀ f, f ∈ l → f.src ∈ y4 p ∧ zLL f.dst.street 0 (p.length - 1) = true ∧ f.dst.plate.ok = true
 | [] => by simp [b9]
 | f :: r => by
  rw [b9]
  split
  ·rename_i h
   split
   ·rename_i h2; rw [factsErr_zero]; simp [h, h2]
   ·rename_i h2
    constructor
    ·intro e; omega
    ·intro e; exact absurd (e f (by simp)).2.2 h2
  ·rename_i h
   constructor
   ·intro e; omega
   ·intro e; exact absurd ⟨(e f (by simp)).1, (e f (by simp)).2.1⟩ h
structure Told (s : Story) : Prop where
 first : Valid s.first
 steps : s.steps.length ≤ 3
 ways : ∀ w, w ∈ s.steps → 0 < w.length ∧ w.length ≤ 3 ∧ j1 w = 0
 facts : s.facts.length ≤ 4
 fact : ∀ f, f ∈ s.facts → f.src ∈ y4 s.first ∧ zLL f.dst.street 0 (s.first.length - 1) = true ∧ f.dst.plate.ok = true
theorem F1 {s : Story} (h : r4 s = 0) : Told s := by
 unfold r4 at h
 split at h
 ·rename_i h1
  split at h
  ·omega
  ·rename_i h2
   unfold W3 at h
   split at h
   ·rename_i h3
    unfold J2 at h
    split at h
    ·omega
    ·rename_i h4
     exact ⟨(T8 _).1 h1, by omega, stepsErr_zero.1 h3, by omega, factsErr_zero.1 h⟩
   ·rename_i h3; exact absurd h h3
 ·rename_i h1; exact absurd h h1
end Go.Abs

namespace Go.Abs
open Go
structure Dice where
 list : List Int
 at_ : Nat
 seed : Int
 deriving Inhabited
abbrev uV (n : Int) : AV := .raw (.int .u64 n)
def u9 (d : Dice) : AObj := .box [.list (d.list.map iV), iV d.at_, uV d.seed]
def b7 (a b : Int) : Int := IntKind.u64.wrap (BitVec.ofInt IntKind.u64.bits a ^^^ BitVec.ofInt IntKind.u64.bits b).toNat
def L1 (a : Int) (k : Nat) : Int := IntKind.u64.wrap (a * 2 ^ (min k IntKind.u64.bits))
def l4 (a : Int) (k : Nat) : Int := a.fdiv (2 ^ (min k IntKind.u64.bits))
def zMI (s : Int) : Int := b7 s (L1 s 13)
def zMJ (s : Int) : Int := b7 s (l4 s 7)
def zMK (s : Int) : Int := b7 s (L1 s 17)
def M4 (s : Int) : Int := zMK (zMJ (zMI s))
def zLp (d : Dice) : Int := if d.at_ < d.list.length then IntKind.u64.wrap (M4 d.seed + IntKind.u64.wrap (IntKind.u64.wrap (d.list.getD d.at_ default) * 13787848793156543929)) else M4 d.seed
def zLl (d : Dice) : Dice := ⟨d.list, if d.at_ < d.list.length then d.at_ + 1 else d.at_, zLp d⟩
def zMC (n : Int) : Int := IntKind.u64.wrap (b7 n (l4 n 30) * 10723151780598845931)
def zLm (d : Dice) : Int := b7 (zMC (zLp d)) (l4 (zMC (zLp d)) 31)
theorem zID (n : Int) : 0 ≤ IntKind.u64.wrap n ∧ IntKind.u64.wrap n < 18446744073709551616 := by
 rw [IntKind.wrap_u64]; omega
theorem zGK (d : Dice) : 0 ≤ zLm d ∧ zLm d < 18446744073709551616 := zID _
def toN (n : Int) (d : Dice) : Int := if n < 1 then 0 else (l4 (zLm d) 16).tmod (n + 1)
def toD (n : Int) (d : Dice) : Dice := if n < 1 then d else zLl d
theorem zGd (n : Int) (h0 : 0 ≤ n) : 0 ≤ l4 n 16 := by
 unfold l4
 rw [Int.fdiv_eq_ediv_of_nonneg _ (by decide)]
 exact Int.ediv_nonneg h0 (by decide)
theorem F2 (n : Int) (d : Dice) : 0 ≤ toN n d ∧ (toN n d ≤ n ∨ toN n d = 0) := by
 unfold toN
 split
 ·omega
 ·have h := zGd _ (zGK d).1
  rw [Int.tmod_eq_emod_of_nonneg h]
  have h1 := Int.emod_nonneg (l4 (zLm d) 16) (b := n + 1) (by omega)
  have h2 := Int.emod_lt_of_pos (l4 (zLm d) 16) (b := n + 1) (by omega)
  omega
theorem zAW {n : Int} (h : 0 ≤ n) (d : Dice) : 0 ≤ toN n d ∧ toN n d ≤ n := by
 have := F2 n d; omega
def u1 (lo hi : Int) (d : Dice) : Int := lo + toN (hi - lo) d
def w7 (lo hi : Int) (d : Dice) : Dice := toD (hi - lo) d
theorem X0 {lo hi : Int} (h : lo ≤ hi) (d : Dice) : lo ≤ u1 lo hi d ∧ u1 lo hi d ≤ hi := by
 have := zAW (n := hi - lo) (by omega) d
 unfold u1; omega
def Z1 (k : Int) (d : Dice) : Bool := toN (k - 1) d == 0
def u6 (k : Int) (d : Dice) : Dice := toD (k - 1) d
def n0 (x : Plate) : List Plate → List Plate
 | [] => [x]
 | y :: r => if y.lt x = true then y :: n0 x r else if y = x then y :: r else x :: y :: r
def P2 (n : Int) (b : Bool) (k : Int) (dy dn : Dice) : Plate × Dice := if b = true then (⟨n, k⟩, dy) else (⟨n, 0⟩, dn)
def Z4 (d : Dice) : Plate × Dice := P2 (u1 1 9 d) (Z1 4 (w7 1 9 d)) (u1 1 2 (u6 4 (w7 1 9 d))) (w7 1 2 (u6 4 (w7 1 9 d))) (u6 4 (w7 1 9 d))
def X7 : Nat → Dice → List Plate → List Plate × Dice
 | 0, d, out => (out, d)
 | n + 1, d, out => X7 n (Z4 d).2 (n0 (Z4 d).1 out)
def f8 (d : Dice) (most : Int) : List Plate × Dice := X7 (toN most d).toNat (toD most d) []
def j9 (d : Dice) (houses : Int) : List Plate × Dice := f8 (u6 3 d) (if Z1 3 d = true then 0 else houses)
def c0 (houses : Int) : Nat → Dice → zLI → zLI × Dice
 | 0, d, out => (out, d)
 | n + 1, d, out => c0 houses n (j9 d houses).2 (out ++ [(j9 d houses).1])
def Q8 (d : Dice) (houses : Int) : zLI × Dice := c0 houses (u1 1 3 d).toNat (w7 1 3 d) []
theorem mem_insPl {x z : Plate} : ∀ {l : List Plate}, z ∈ n0 x l ↔ z = x ∨ z ∈ l
 | [] => by simp [n0]
 | y :: r => by
  simp only [n0]
  split
  ·simp only [List.mem_cons, mem_insPl (l := r)]
   constructor
   ·rintro (h | h | h) <;> simp [h]
   ·rintro (h | h | h) <;> simp [h]
  ·split
   ·rename_i e; subst e; simp
   ·simp
theorem zCl {x : Plate} : ∀ {l : List Plate}, l.Pairwise (fun a b => a.lt b = true) → (n0 x l).Pairwise (fun a b => a.lt b = true)
 | [], _ => by simp [n0]
 | y :: r, h => by
  obtain ⟨h1, h2⟩ := List.pairwise_cons.1 h
  simp only [n0]
  split
  ·rename_i hy
   refine List.pairwise_cons.2 ⟨fun z hz => ?_, zCl h2⟩
   rcases mem_insPl.1 hz with rfl | hz
   ·exact hy
   ·exact h1 z hz
  ·rename_i hy
   split
   ·exact h
   ·rename_i hne
    have hxy : x.lt y = true := by
     rcases Plate.lt_tri x y with h | h | h
     ·exact h
     ·exact absurd h.symm hne
     ·exact absurd h hy
    refine List.pairwise_cons.2 ⟨fun z hz => ?_, h⟩
    rcases List.mem_cons.1 hz with rfl | hz
    ·exact hxy
    ·exact Plate.lt_trans hxy (h1 z hz)
theorem B1 {x : Plate} : ∀ {l : List Plate}, (n0 x l).length ≤ l.length + 1
 | [] => by simp [n0]
 | y :: r => by
  simp only [n0]
  split
  ·simp only [List.length_cons]; have := B1 (x := x) (l := r); omega
  ·split <;> simp
theorem B0 {x : Plate} : ∀ {l : List Plate} {k : Nat}, k ≤ l.length → (∀ j, j < k → (l.getD j default).lt x = true) → (k < l.length → (l.getD k default).lt x = false) →
  n0 x l = if k < l.length ∧ l.getD k default = x then l else l.take k ++ x :: l.drop k
 | [], k, hk, _, _ => by
  have : k = 0 := by simpa using hk
  subst this
  simp [n0]
 | y :: r, 0, _, _, h => by
  have h0 : y.lt x = false := by simpa using h (by simp)
  simp only [n0, h0]
  by_cases e : y = x
  ·simp [e]
  ·simp [e]
 | y :: r, k + 1, hk, hj, h => by
  have h0 : y.lt x = true := by simpa using hj 0 (by omega)
  have ih := B0 (x := x) (l := r) (k := k) (by simpa using hk) (fun j hj' => by simpa using hj (j + 1) (by omega)) (fun hk' => by simpa using h (by simpa using hk'))
  simp only [n0, h0, if_true, ih]
  by_cases e : k < r.length ∧ r.getD k default = x
  ·rw [if_pos e, if_pos (by simpa using e)]
  ·rw [if_neg e, if_neg (by simpa using e)]; simp
theorem zF8 {n k : Int} (b : Bool) (dy dn : Dice) (h1 : 1 ≤ n ∧ n ≤ 9) (h2 : 1 ≤ k ∧ k ≤ 2) : (P2 n b k dy dn).1.ok = true := by
 unfold P2
 split
 ·rw [u0]; simp only; omega
 ·rw [u0]; simp only; omega
theorem zF9 (d : Dice) : (Z4 d).1.ok = true := zF8 _ _ _ (X0 (by omega) d) (X0 (by omega) _)
theorem zB7 : ∀ (n : Nat) (d : Dice) (out : List Plate), out.length + n ≤ 8 → (∀ x, x ∈ out → x.ok = true) → out.Pairwise (fun a b => a.lt b = true) → Sound (X7 n d out).1
 | 0, d, out, hl, ho, hs => ⟨by simpa [X7] using hl, ho, hs⟩
 | n + 1, d, out, hl, ho, hs => by
  have h1 := B1 (x := (Z4 d).1) (l := out)
  refine zB7 n _ _ (by omega) (fun x hx => ?_) (zCl hs)
  rcases mem_insPl.1 hx with rfl | hx
  ·exact zF9 d
  ·exact ho x hx
theorem zGC {d : Dice} {most : Int} (h : most ≤ 8) : Sound (f8 d most).1 := by
 have := F2 most d
 exact zB7 _ _ [] (by simp; omega) (by simp) (by simp)
theorem zCi {houses : Int} (h : houses ≤ 8) : ∀ (n : Nat) (d : Dice) (out : zLI), (∀ l, l ∈ out → Sound l) → (c0 houses n d out).1.length = out.length + n ∧ ∀ l, l ∈ (c0 houses n d out).1 → Sound l
 | 0, d, out, ho => ⟨rfl, ho⟩
 | n + 1, d, out, ho => by
  obtain ⟨h1, h2⟩ := zCi h n (j9 d houses).2 (out ++ [(j9 d houses).1]) (fun l hl => by
   rcases List.mem_append.1 hl with hl | hl
   ·exact ho l hl
   ·have : l = (j9 d houses).1 := by simpa using hl
    rw [this]
    exact zGC (by split <;> omega))
  refine ⟨?_, h2⟩
  have : (c0 houses (n + 1) d out).1 = (c0 houses n (j9 d houses).2 (out ++ [(j9 d houses).1])).1 := rfl
  rw [this, h1]; simp; omega
theorem zKX {d : Dice} {houses : Int} (h : houses ≤ 8) : Valid (Q8 d houses).1 := by
 have h0 := X0 (lo := 1) (hi := 3) (by omega) d
 obtain ⟨h1, h2⟩ := zCi h (u1 1 3 d).toNat (w7 1 3 d) [] (by simp)
 have e : (Q8 d houses).1 = (c0 houses (u1 1 3 d).toNat (w7 1 3 d) []).1 := rfl
 simp only [List.length_nil, Nat.zero_add] at h1
 exact ⟨by rw [e, h1]; omega, by rw [e, h1]; omega, fun l hl => h2 l (by rw [← e]; exact hl)⟩
def l5 (d : Dice) (l : List Plate) : Plate × Dice :=
 if l.length = 0 then (⟨u1 1 9 d, 0⟩, w7 1 9 d)
 else if Z1 12 d = true then (⟨u1 1 9 (u6 12 d), 0⟩, w7 1 9 (u6 12 d))
 else (l.getD (toN (l.length - 1) (u6 12 d)).toNat default, toD (l.length - 1) (u6 12 d))
def K9 (d : Dice) (p : zLI) (kind : Int) (s : Int) : Change × Dice :=
 if kind = 4 then (⟨4, s, (s + u1 1 2 d) % p.length, zeroPlate, zeroPlate⟩, w7 1 2 d)
 else if kind = 7 then
  let o := (s + u1 1 2 d) % p.length
  let a := l5 (w7 1 2 d) (z9 p s)
  let b := l5 a.2 (z9 p s)
  if b.1.lt a.1 = true then (⟨7, s, o, b.1, a.1⟩, b.2) else (⟨7, s, o, a.1, b.1⟩, b.2)
 else if kind = 5 ∨ kind = 6 then
  let a := l5 d (z9 p s)
  (⟨kind, s, 0, a.1, zeroPlate⟩, a.2)
 else (⟨kind, s, 0, zeroPlate, zeroPlate⟩, d)
def N0 (d : Dice) (p : zLI) : Change × Dice := K9 (toD (p.length - 1) (w7 1 7 d)) p (u1 1 7 d) (toN (p.length - 1) (w7 1 7 d))
end Go.Abs

namespace Go.Abs
open Go
def e7 (l : List Truth) (h : House) (x : Truth) : Nat := l.countP fun y => decide (x.now h = y.now h)
def p9 (l : List Truth) (h : House) : Nat := l.foldl (fun m x => max m (e7 l h x)) 0
def a7 (g : List Nat) : List Nat → Nat → Int → Int
 | [], _, at_ => at_
 | x :: r, i, at_ => a7 g r (i + 1) (if at_ < 0 ∨ x < g.getD at_.toNat 0 then i else at_)
def i9 (g : List Nat) : Int := a7 g g 0 (-1)
def V3 (s : Story) : List Nat := (y4 s.first).map (p9 (t8 s))
def K6 (s : Story) : Option (House × Nat) :=
 if (t8 s).length = 0 ∨ i9 (V3 s) < 0 ∨ (V3 s).getD (i9 (V3 s)).toNat 0 = (t8 s).length then none
 else some ((y4 s.first).getD (i9 (V3 s)).toNat default, (V3 s).getD (i9 (V3 s)).toNat 0)
def T2 (s : Story) (h : House) : List House := (t8 s).flatMap fun t => t.now h
def O0 (s : Story) (h : House) : Int := if r4 s = 0 then if h ∈ y4 s.first then if t8 s = [] then 11 else 0 else 3 else r4 s
def zAY (s : Story) (h : House) : List House := w8 (T2 s h)
def F3 (s : Story) : List (List Int) := (t8 s).map fun t => t.ways
def zIt (s : Story) : Int := if r4 s = 0 then (if (K6 s).isSome = true then 0 else 11) else r4 s
def zLe (l : List Int) : List Plate := l.map fun n => ⟨n, 0⟩
def townX : zLI := [zLe [1, 2, 3, 4, 5], zLe [1, 2], []]
def atX (s n : Int) : House := ⟨s, ⟨n, 0⟩⟩
def X2 : Change := ⟨4, 1, 0, zeroPlate, zeroPlate⟩
def zH2 : Change := ⟨1, 0, 0, zeroPlate, zeroPlate⟩
def zHr : Change := ⟨2, 0, 0, zeroPlate, zeroPlate⟩
def J3 : Change := ⟨6, 0, 0, ⟨3, 0⟩, zeroPlate⟩
def taleX : Story := ⟨townX, [[zH2, zHr], [X2]], []⟩
def H2 : zLI := [zLe [1, 2, 3, 4, 5, 7, 8], [], []]
def H3 : zLI := [zLe [1, 2, 4, 5, 7, 8], [], []]
theorem zCz : r9 townX X2 = 0 := by kernel_rfl
theorem zIF : u4 townX X2 = H2 := by kernel_rfl
theorem zAe : r4 taleX = 0 := by kernel_rfl
theorem zC1 : F3 taleX = [[0, 0], [1, 0]] := by kernel_rfl
theorem zC2 : T2 taleX (atX 0 1) = [atX 0 5, atX 0 2] := by kernel_rfl
theorem zIJ : O0 taleX (atX 0 1) = 0 := by
 unfold O0
 rw [if_pos zAe, if_pos (by decide), if_neg]
 intro h
 have := zC1
 unfold F3 at this
 rw [h] at this
 cases this
theorem zII : zAY taleX (atX 0 1) = [atX 0 2, atX 0 5] := by kernel_rfl
theorem zIG : K6 taleX = some (atX 0 1, 1) := by kernel_rfl
theorem zIH : S6 townX H3 = some [X2, J3] := by kernel_rfl
end Go.Abs

namespace Go.Abs
open Go
theorem C8 {x : House} : ∀ {l : List House} {k : Nat}, k ≤ l.length → (∀ j, j < k → (l.getD j default).lt x = true) → (k < l.length → (l.getD k default).lt x = false) →
  zLY x l = if k < l.length ∧ l.getD k default = x then l else l.take k ++ x :: l.drop k
 | [], k, hk, _, _ => by
  have : k = 0 := by simpa using hk
  subst this
  simp [zLY]
 | y :: r, 0, _, _, h => by
  have h0 : y.lt x = false := by simpa using h (by simp)
  simp only [zLY, h0]
  by_cases e : y = x
  ·simp [e]
  ·simp [e]
 | y :: r, k + 1, hk, hj, h => by
  have h0 : y.lt x = true := by simpa using hj 0 (by omega)
  have ih := C8 (x := x) (l := r) (k := k) (by simpa using hk) (fun j hj' => by simpa using hj (j + 1) (by omega)) (fun hk' => by simpa using h (by simpa using hk'))
  simp only [zLY, h0, if_true, ih]
  by_cases e : k < r.length ∧ r.getD k default = x
  ·rw [if_pos e, if_pos (by simpa using e)]
  ·rw [if_neg e, if_neg (by simpa using e)]; simp
theorem C9 {x : House} : ∀ {l : List House}, (zLY x l).length ≤ l.length + 1
 | [] => by simp [zLY]
 | y :: r => by
  simp only [zLY]
  split
  ·simp only [List.length_cons]; have := C9 (x := x) (l := r); omega
  ·split <;> simp
theorem J6 : ∀ (l out : List House), (l.foldl (fun out x => zLY x out) out).length ≤ out.length + l.length
 | [], out => by simp
 | x :: r, out => by
  have h1 := J6 r (zLY x out)
  have h2 := C9 (x := x) (l := out)
  simp only [List.foldl_cons, List.length_cons]; omega
structure Move where
 src : House
 dst : House
 deriving DecidableEq, Inhabited
@[reducible] def Move.enc (m : Move) : AV := .agg [iV m.src.street, iV m.src.plate.number, iV m.src.plate.letter, iV m.dst.street, iV m.dst.plate.number, iV m.dst.plate.letter]
attribute [go_sem] Move.enc
def l9 (p : zLI) (c : Change) : List Move := (y4 p).flatMap fun h => (mv p c h).map fun z => ⟨h, z⟩
theorem zFj (p : zLI) (c : Change) : (l9 p c).map Move.dst = s9 p c := by
 unfold l9 s9
 rw [List.map_flatMap]
 simp [Function.comp_def]
theorem zBv (p : zLI) (c : Change) (h : House) : (mv p c h).length ≤ 2 := by
 unfold mv toP
 repeat' split
 all_goals simp
theorem zBt (p : zLI) (c : Change) : (l9 p c).length ≤ 2 * (y4 p).length := by
 unfold l9
 have : ∀ l : List House, (l.flatMap fun h => (mv p c h).map fun z => (⟨h, z⟩ : Move)).length ≤ 2 * l.length := fun l => by
  induction l with
  | nil => simp
  | cons x r ih =>
   have := zBv p c x
   simp only [List.flatMap_cons, List.length_append, List.length_map, List.length_cons]; omega
 exact this _
def zDG (p : zLI) (c : Change) (h : House) : Int := if r9 p c = 0 then (if h ∈ y4 p then 0 else 3) else r9 p c
def zIu (p : zLI) (c : Change) (h : House) : List House := if zDG p c h = 0 then w8 (mv p c h) else []
def zCw (p : zLI) (c : Change) (h : House) : Option House := (y4 p).find? fun x => decide (h ∈ mv p c x)
def zH7 (p : zLI) (c : Change) (h : House) : Int := if r9 p c = 0 then (if (zCw p c h).isSome = true then 0 else 3) else r9 p c
end Go.Abs

namespace Go.Abs
open Go Go.Proofs Tryz
structure Plate.Wf (x : Plate) : Prop where
 n : (Lit.int .i64 x.number).wf = true
 l : (Lit.int .i64 x.letter).wf = true
structure PlanB (N : Nat) (p : zLI) : Prop where
 len : p.length ≤ N
 rows : ∀ l, l ∈ p → l.length ≤ N
 wf : ∀ l, l ∈ p → ∀ x, x ∈ l → x.Wf
structure Bound (N : Nat) (s : Story) : Prop where
 first : PlanB N s.first
 steps : s.steps.length ≤ N
 ways : ∀ w, w ∈ s.steps → w.length ≤ N
 facts : s.facts.length ≤ N
 wf : ∀ f, f ∈ s.facts → f.src.Wf ∧ f.dst.Wf
theorem PlanB.house {N : Nat} {p : zLI} (b : PlanB N p) (hN : N ≤ 4294967296) : ∀ h, h ∈ y4 p → h.Wf := fun h hh => by
 obtain ⟨h0, h1, h2⟩ := mem_houses.1 hh
 have hl := b.len
 have w := b.wf _ (zGO h0 h1) _ h2
 exact ⟨F4 (by omega) (by omega), w.n, w.l⟩
def zC4 : House := ⟨0, ⟨0, 0⟩⟩
def zMX (p : zLI) (c : Change) (h : House) : House := if zH7 p c h = 0 then (zCw p c h).getD zC4 else zC4
end Go.Abs

namespace Go.Abs
open Go Go.Proofs Tryz
attribute [local irreducible] z3 Hold q7
@[reducible] def l6 (l : List Int) : AV := .list (l.map iV)
attribute [go_sem] l6
theorem zGo (a b : List Int) (h1 : a.length ≤ 4294967296) : zLJ prog 61 [l6 a, l6 b] [] (bV (decide (a = b))) [] := by
 refine y3 func61 rfl (fun E hE => ?_); simp only [go_sem, ntmps61]
 repeat' (first | (show z3 ..; first | (refine Qr rfl ?_; try intro _ hK; try simp only [go_sem, *])) | (show Hold ..; first | refine Qh rfl ?_ | refine q6 rfl mixed (by kernel_rfl) ?_ | (refine z7 rfl ⟨_, rfl, fun hb => ?_, fun hb => ?_⟩ <;> (have hc := hb; try simp only [go_sem] at hc)) | refine z8 rfl ?_) | (refine Qb ?_ ?_; focus kernel_rfl) | ((with_reducible refine And.intro ?_ ?_); focus omega) | (refine z6 hK ?_; clear hK; simp only [go_sem, *]) | (simp only [z5, z4, go_sem, *]))
 ·(refine ⟨[_], [], [], ⟨rfl, trivial⟩, ?_⟩; simp only [go_sem, *])
  simp [Q2 (a := a) (b := b) (by assumption)]
 ·have hlb : a.length = b.length := by assumption
  refine y8 rfl (fun zn zN zenv zAs => ∃ (i : Nat), zn = (b.length) - i ∧ i ≤ (b.length) ∧ (a.take i = b.take i) ∧ zN = 26 ∧ zenv = [(5, iV i), (0, l6 a), (1, l6 b)] ∧ zAs = []) (b.length) ⟨[], [], _, _, _, (by (simp only [Weak, go_sem, List.map_append, List.map_set, *] <;> (try simp (disch := omega) only [q9]) <;> (try simp) <;> (try omega))), 0, (by simp), (by simp), (by simp), rfl, rfl, rfl⟩ ?_; rintro _ _ _ _ ⟨i, rfl, hi, hP, rfl, rfl, rfl⟩
  repeat' (first | (show z3 ..; first | (refine Qr rfl ?_; try intro _ hK; try simp only [go_sem, *])) | (show Hold ..; first | refine Qh rfl ?_ | refine q6 rfl mixed (by kernel_rfl) ?_ | (refine z7 rfl ⟨_, rfl, fun hb => ?_, fun hb => ?_⟩ <;> (have hc := hb; try simp only [go_sem] at hc)) | refine z8 rfl ?_) | (refine Qb ?_ ?_; focus kernel_rfl) | ((with_reducible refine And.intro ?_ ?_); focus omega) | (refine z6 hK ?_; clear hK; simp only [go_sem, *]) | (simp only [z5, z4, go_sem, *]))
  ·(refine ⟨[_], [], [], ⟨rfl, trivial⟩, ?_⟩; simp only [go_sem, *])
   simp [Y2 (a := a) (b := b) (i := i) (by assumption)]
  ·refine ⟨_, (by omega), [], [], _, _, _, (by (simp only [Weak, go_sem, List.map_append, List.map_set, *] <;> (try simp (disch := omega) only [q9]) <;> (try simp) <;> (try omega))), i + 1, rfl, (by omega), (by exact Y1 (by omega) (by omega) hP (by assumption)), rfl, rfl, rfl⟩
  ·(refine ⟨[_], [], [], ⟨rfl, trivial⟩, ?_⟩; simp only [go_sem, *])
   simp [Y0 (by omega) hlb hP]
theorem zGp (a b : List (List Int)) (h1 : a.length ≤ 4294967296) (hrl : ∀ l, l ∈ a → l.length ≤ 4294967296) : zLJ prog 44 [.list (a.map l6), .list (b.map l6)] [] (bV (decide (a = b))) [] := by
 refine y3 func44 rfl (fun E hE => ?_); simp only [go_sem, ntmps44]
 repeat' (first | (show z3 ..; first | (refine Qr rfl ?_; try intro _ hK; try simp only [go_sem, *])) | (show Hold ..; first | refine Qh rfl ?_ | refine q6 rfl mixed (by kernel_rfl) ?_ | (refine z7 rfl ⟨_, rfl, fun hb => ?_, fun hb => ?_⟩ <;> (have hc := hb; try simp only [go_sem] at hc)) | refine z8 rfl ?_) | (refine Qb ?_ ?_; focus kernel_rfl) | ((with_reducible refine And.intro ?_ ?_); focus omega) | (refine z6 hK ?_; clear hK; simp only [go_sem, *]) | (simp only [z5, z4, go_sem, *]))
 ·(refine ⟨[_], [], [], ⟨rfl, trivial⟩, ?_⟩; simp only [go_sem, *])
  simp [Q2 (a := a) (b := b) (by assumption)]
 ·have hlb : a.length = b.length := by assumption
  refine y8 rfl (fun zn zN zenv zAs => ∃ (i : Nat), zn = (b.length) - i ∧ i ≤ (b.length) ∧ (a.take i = b.take i) ∧ zN = 27 ∧ zenv = [(5, iV i), (0, .list (a.map l6)), (1, .list (b.map l6))] ∧ zAs = []) (b.length) ⟨[], [], _, _, _, (by (simp only [Weak, go_sem, List.map_append, List.map_set, *] <;> (try simp (disch := omega) only [q9]) <;> (try simp) <;> (try omega))), 0, (by simp), (by simp), (by simp), rfl, rfl, rfl⟩ ?_; rintro _ _ _ _ ⟨i, rfl, hi, hP, rfl, rfl, rfl⟩
  repeat' (first | (show z3 ..; first | (refine Qr rfl ?_; try intro _ hK; try simp only [go_sem, *])) | (show Hold ..; first | refine Qh rfl ?_ | refine q6 rfl mixed (by kernel_rfl) ?_ | (refine z7 rfl ⟨_, rfl, fun hb => ?_, fun hb => ?_⟩ <;> (have hc := hb; try simp only [go_sem] at hc)) | refine z8 rfl ?_) | (refine Qb ?_ ?_; focus kernel_rfl) | (show q7 ..; first | (refine q8 (zGo (List.getD a i default) (List.getD b i default) (hrl _ (w6 (by omega)))) ?_ ?_; (focus (simp only [go_sem, *]; done)); simp only [go_sem, *])) | ((with_reducible refine And.intro ?_ ?_); focus omega) | (refine z6 hK ?_; clear hK; simp only [go_sem, *]) | (simp only [z5, z4, go_sem, *]))
  ·(refine ⟨[_], [], [], ⟨rfl, trivial⟩, ?_⟩; simp only [go_sem, *])
   simp [Y2 (a := a) (b := b) (i := i) (by assumption)]
  ·refine ⟨_, (by omega), [], [], _, _, _, (by (simp only [Weak, go_sem, List.map_append, List.map_set, *] <;> (try simp (disch := omega) only [q9]) <;> (try simp) <;> (try omega))), i + 1, rfl, (by omega), (by exact Y1 (by omega) (by omega) hP (by assumption)), rfl, rfl, rfl⟩
  ·(refine ⟨[_], [], [], ⟨rfl, trivial⟩, ?_⟩; simp only [go_sem, *])
   simp [Y0 (by omega) hlb hP]
theorem zGq (a b : List House) (h1 : a.length ≤ 4294967296) : zLJ prog 37 [r8 a, r8 b] [] (bV (decide (a = b))) [] := by
 refine y3 func37 rfl (fun E hE => ?_); simp only [go_sem, ntmps37]
 repeat' (first | (show z3 ..; first | (refine Qr rfl ?_; try intro _ hK; try simp only [go_sem, *])) | (show Hold ..; first | refine Qh rfl ?_ | refine q6 rfl mixed (by kernel_rfl) ?_ | (refine z7 rfl ⟨_, rfl, fun hb => ?_, fun hb => ?_⟩ <;> (have hc := hb; try simp only [go_sem] at hc)) | refine z8 rfl ?_) | (refine Qb ?_ ?_; focus kernel_rfl) | ((with_reducible refine And.intro ?_ ?_); focus omega) | (refine z6 hK ?_; clear hK; simp only [go_sem, *]) | (simp only [z5, z4, go_sem, *]))
 ·(refine ⟨[_], [], [], ⟨rfl, trivial⟩, ?_⟩; simp only [go_sem, *])
  simp [Q2 (a := a) (b := b) (by assumption)]
 ·have hlb : a.length = b.length := by assumption
  refine y8 rfl (fun zn zN zenv zAs => ∃ (i : Nat), zn = (b.length) - i ∧ i ≤ (b.length) ∧ (a.take i = b.take i) ∧ zN = 26 ∧ zenv = [(5, iV i), (0, r8 a), (1, r8 b)] ∧ zAs = []) (b.length) ⟨[], [], _, _, _, (by (simp only [Weak, go_sem, List.map_append, List.map_set, *] <;> (try simp (disch := omega) only [q9]) <;> (try simp) <;> (try omega))), 0, (by simp), (by simp), (by simp), rfl, rfl, rfl⟩ ?_; rintro _ _ _ _ ⟨i, rfl, hi, hP, rfl, rfl, rfl⟩
  repeat' (first | (show z3 ..; first | (refine Qr rfl ?_; try intro _ hK; try simp only [go_sem, *])) | (show Hold ..; first | refine Qh rfl ?_ | refine q6 rfl mixed (by kernel_rfl) ?_ | (refine z7 rfl ⟨_, rfl, fun hb => ?_, fun hb => ?_⟩ <;> (have hc := hb; try simp only [go_sem] at hc)) | refine z8 rfl ?_) | (refine Qb ?_ ?_; focus kernel_rfl) | ((with_reducible refine And.intro ?_ ?_); focus omega) | (refine z6 hK ?_; clear hK; simp only [go_sem, *]) | (simp only [z5, z4, go_sem, *]))
  ·(refine ⟨[_], [], [], ⟨rfl, trivial⟩, ?_⟩; simp only [go_sem, *])
   simp [Y2 (a := a) (b := b) (i := i) (by assumption)]
  ·refine ⟨_, (by omega), [], [], _, _, _, (by (simp only [Weak, go_sem, List.map_append, List.map_set, *] <;> (try simp (disch := omega) only [q9]) <;> (try simp) <;> (try omega))), i + 1, rfl, (by omega), (by exact Y1 (by omega) (by omega) hP (by assumption)), rfl, rfl, rfl⟩
  ·(refine ⟨[_], [], [], ⟨rfl, trivial⟩, ?_⟩; simp only [go_sem, *])
   simp [Y0 (by omega) hlb hP]
theorem zGn (a b : List Change) (h1 : a.length ≤ 4294967296) : zLJ prog 33 [.list (a.map Change.enc), .list (b.map Change.enc)] [] (bV (decide (a = b))) [] := by
 refine y3 func33 rfl (fun E hE => ?_); simp only [go_sem, ntmps33]
 repeat' (first | (show z3 ..; first | (refine Qr rfl ?_; try intro _ hK; try simp only [go_sem, *])) | (show Hold ..; first | refine Qh rfl ?_ | refine q6 rfl mixed (by kernel_rfl) ?_ | (refine z7 rfl ⟨_, rfl, fun hb => ?_, fun hb => ?_⟩ <;> (have hc := hb; try simp only [go_sem] at hc)) | refine z8 rfl ?_) | (refine Qb ?_ ?_; focus kernel_rfl) | ((with_reducible refine And.intro ?_ ?_); focus omega) | (refine z6 hK ?_; clear hK; simp only [go_sem, *]) | (simp only [z5, z4, go_sem, *]))
 ·(refine ⟨[_], [], [], ⟨rfl, trivial⟩, ?_⟩; simp only [go_sem, *])
  simp [Q2 (a := a) (b := b) (by assumption)]
 ·have hlb : a.length = b.length := by assumption
  refine y8 rfl (fun zn zN zenv zAs => ∃ (i : Nat), zn = (b.length) - i ∧ i ≤ (b.length) ∧ (a.take i = b.take i) ∧ zN = 26 ∧ zenv = [(5, iV i), (0, .list (a.map Change.enc)), (1, .list (b.map Change.enc))] ∧ zAs = []) (b.length) ⟨[], [], _, _, _, (by (simp only [Weak, go_sem, List.map_append, List.map_set, *] <;> (try simp (disch := omega) only [q9]) <;> (try simp) <;> (try omega))), 0, (by simp), (by simp), (by simp), rfl, rfl, rfl⟩ ?_; rintro _ _ _ _ ⟨i, rfl, hi, hP, rfl, rfl, rfl⟩
  repeat' (first | (show z3 ..; first | (refine Qr rfl ?_; try intro _ hK; try simp only [go_sem, *])) | (show Hold ..; first | refine Qh rfl ?_ | refine q6 rfl mixed (by kernel_rfl) ?_ | (refine z7 rfl ⟨_, rfl, fun hb => ?_, fun hb => ?_⟩ <;> (have hc := hb; try simp only [go_sem] at hc)) | refine z8 rfl ?_) | (refine Qb ?_ ?_; focus kernel_rfl) | ((with_reducible refine And.intro ?_ ?_); focus omega) | (refine z6 hK ?_; clear hK; simp only [go_sem, *]) | (simp only [z5, z4, go_sem, *]))
  ·(refine ⟨[_], [], [], ⟨rfl, trivial⟩, ?_⟩; simp only [go_sem, *])
   simp [Y2 (a := a) (b := b) (i := i) (by assumption)]
  ·refine ⟨_, (by omega), [], [], _, _, _, (by (simp only [Weak, go_sem, List.map_append, List.map_set, *] <;> (try simp (disch := omega) only [q9]) <;> (try simp) <;> (try omega))), i + 1, rfl, (by omega), (by exact Y1 (by omega) (by omega) hP (by assumption)), rfl, rfl, rfl⟩
  ·(refine ⟨[_], [], [], ⟨rfl, trivial⟩, ?_⟩; simp only [go_sem, *])
   simp [Y0 (by omega) hlb hP]
theorem zGr (a b : zLI) (h1 : a.length ≤ 4294967296) (hrl : ∀ l, l ∈ a → l.length ≤ 4294967296) : zLJ prog 29 [y5 a, y5 b] [] (bV (decide (a = b))) [] := by
 refine y3 func29 rfl (fun E hE => ?_); simp only [go_sem, ntmps29]
 repeat' (first | (show z3 ..; first | (refine Qr rfl ?_; try intro _ hK; try simp only [go_sem, *])) | (show Hold ..; first | refine Qh rfl ?_ | refine q6 rfl mixed (by kernel_rfl) ?_ | (refine z7 rfl ⟨_, rfl, fun hb => ?_, fun hb => ?_⟩ <;> (have hc := hb; try simp only [go_sem] at hc)) | refine z8 rfl ?_) | (refine Qb ?_ ?_; focus kernel_rfl) | ((with_reducible refine And.intro ?_ ?_); focus omega) | (refine z6 hK ?_; clear hK; simp only [go_sem, *]) | (simp only [z5, z4, go_sem, *]))
 ·(refine ⟨[_], [], [], ⟨rfl, trivial⟩, ?_⟩; simp only [go_sem, *])
  simp [Q2 (a := a) (b := b) (by assumption)]
 ·have hlb : a.length = b.length := by assumption
  refine y8 rfl (fun zn zN zenv zAs => ∃ (i : Nat), zn = (b.length) - i ∧ i ≤ (b.length) ∧ (a.take i = b.take i) ∧ zN = 61 ∧ zenv = [(5, iV i), (2, .ptr 0 0), (3, .ptr 1 0)] ∧ zAs = [zLW a, zLW b]) (b.length) ⟨[some 0, some 1], [], _, _, _, (by (simp only [Weak, go_sem, List.map_append, List.map_set, *] <;> (try simp (disch := omega) only [q9]) <;> (try simp) <;> (try omega))), 0, (by simp), (by simp), (by simp), rfl, rfl, rfl⟩ ?_; rintro _ _ _ _ ⟨i, rfl, hi, hP, rfl, rfl, rfl⟩
  by_cases hi2 : i < b.length
  ·have hra := hrl _ (w6 (l := a) (i := i) (by omega))
   have hia : i < a.length := by omega
   obtain ⟨e1, he1⟩ : ∃ e1, e1 = a.getD i default := ⟨_, rfl⟩
   obtain ⟨e2, he2⟩ : ∃ e2, e2 = b.getD i default := ⟨_, rfl⟩
   have nx0 : e1 = e2 → a.take (i + 1) = b.take (i + 1) := fun e => Y1 (by omega) (by omega) hP (by rw [← he1, ← he2]; exact e)
   have no0 : ¬ e1 = e2 → ¬ a = b := fun e => Y2 (i := i) (by rw [← he1, ← he2]; exact e)
   rw [← he1] at hra
   repeat' (first | (show z3 ..; first | (refine Qr rfl ?_; try intro _ hK; try simp only [go_sem, *])) | (show Hold ..; first | refine Qh rfl ?_ | refine q6 rfl mixed (by kernel_rfl) ?_ | (refine z7 rfl ⟨_, rfl, fun hb => ?_, fun hb => ?_⟩ <;> (have hc := hb; try simp only [go_sem] at hc)) | refine z8 rfl ?_) | (refine Qb ?_ ?_; focus kernel_rfl) | ((with_reducible refine And.intro ?_ ?_); focus omega) | (refine z6 hK ?_; clear hK; simp only [go_sem, *]) | (simp only [z5, z4, go_sem, *]))
   ·rw [← he1, ← he2] at *
    (refine ⟨[_], [], [], ⟨rfl, trivial⟩, ?_⟩; simp only [go_sem, *])
    simp [no0 (Q2 (by assumption))]
   ·have hl2 : (a.getD i default).length = (b.getD i default).length := by assumption
    have hkb : (b.getD i default).length ≤ 4294967296 := by rw [← hl2, ← he1]; exact hra
    refine y8 rfl (fun zn zN zenv zAs => ∃ (k : Nat), zn = ((b.getD i default).length) - k ∧ k ≤ ((b.getD i default).length) ∧ ((a.getD i default).take k = (b.getD i default).take k) ∧ zN = 61 ∧ zenv = [(6, iV k), (5, iV i), (2, .ptr 0 0), (3, .ptr 1 0)] ∧ zAs = [zLW a, zLW b]) ((b.getD i default).length) ⟨[some 0, some 1], [], _, _, _, (by (simp only [Weak, go_sem, List.map_append, List.map_set, *] <;> (try simp (disch := omega) only [q9]) <;> (try simp) <;> (try omega))), 0, (by simp), (by simp), (by simp), rfl, rfl, rfl⟩ ?_; rintro _ _ _ _ ⟨k, rfl, hk, hQ, rfl, rfl, rfl⟩
    repeat' (first | (show z3 ..; first | (refine Qr rfl ?_; try intro _ hK; try simp only [go_sem, *])) | (show Hold ..; first | refine Qh rfl ?_ | refine q6 rfl mixed (by kernel_rfl) ?_ | (refine z7 rfl ⟨_, rfl, fun hb => ?_, fun hb => ?_⟩ <;> (have hc := hb; try simp only [go_sem] at hc)) | refine z8 rfl ?_) | (refine Qb ?_ ?_; focus kernel_rfl) | ((with_reducible refine And.intro ?_ ?_); focus omega) | (refine z6 hK ?_; clear hK; simp only [go_sem, *]) | (simp only [z5, z4, go_sem, *]))
    ·(refine ⟨[_], [], [], ⟨rfl, trivial⟩, ?_⟩; simp only [go_sem, *])
     simp [no0 (by rw [he1, he2]; exact Y2 (i := k) (by assumption))]
    ·refine ⟨_, (by omega), [some 0, some 1], [], _, _, _, (by (simp only [Weak, go_sem, List.map_append, List.map_set, *] <;> (try simp (disch := omega) only [q9]) <;> (try simp) <;> (try omega))), k + 1, rfl, (by omega), (by exact Y1 (by omega) (by omega) hQ (by assumption)), rfl, rfl, rfl⟩
    ·refine ⟨_, (by omega), [some 0, some 1], [], _, _, _, (by (simp only [Weak, go_sem, List.map_append, List.map_set, *] <;> (try simp (disch := omega) only [q9]) <;> (try simp) <;> (try omega))), i + 1, rfl, (by omega), (by exact nx0 (by rw [he1, he2]; exact Y0 (by omega) hl2 hQ)), rfl, rfl, rfl⟩
  ·repeat' (first | (show z3 ..; first | (refine Qr rfl ?_; try intro _ hK; try simp only [go_sem, *])) | (show Hold ..; first | refine Qh rfl ?_ | refine q6 rfl mixed (by kernel_rfl) ?_ | (refine z7 rfl ⟨_, rfl, fun hb => ?_, fun hb => ?_⟩ <;> (have hc := hb; try simp only [go_sem] at hc)) | refine z8 rfl ?_) | (refine Qb ?_ ?_; focus kernel_rfl) | ((with_reducible refine And.intro ?_ ?_); focus omega) | (refine z6 hK ?_; clear hK; simp only [go_sem, *]) | (simp only [z5, z4, go_sem, *]))
   (refine ⟨[_], [], [], ⟨rfl, trivial⟩, ?_⟩; simp only [go_sem, *])
   simp [Y0 (by omega) hlb hP]
theorem F0 (l : List Int) (h1 : l.length ≤ 1000) : zLJ prog 81 [l6 l] [] (y6 (zLe l)) [] := by
 refine y3 func81 rfl (fun E hE => ?_); simp only [go_sem, ntmps81]
 repeat' (first | (show z3 ..; first | (refine Qr rfl ?_; try intro _ hK; try simp only [go_sem, *])) | (show Hold ..; first | refine Qh rfl ?_ | (refine z7 rfl ⟨_, rfl, fun hb => ?_, fun hb => ?_⟩ <;> (have hc := hb; try simp only [go_sem] at hc)) | refine z8 rfl ?_) | ((with_reducible refine And.intro ?_ ?_); focus omega) | (refine z6 hK ?_; clear hK; simp only [go_sem, *]) | (simp only [z5, z4, go_sem, *]))
 refine y8 rfl (fun zn zN zenv zAs => ∃ (i : Nat) (acc : List Plate), zn = (l.length) - i ∧ i ≤ (l.length) ∧ (acc ++ zLe (l.drop i) = zLe l) ∧ zN = 20 ∧ zenv = [(4, iV i), (3, .own 0 2 0 acc.length), (0, l6 l)] ∧ zAs = [.row 2 (acc.map Plate.enc)]) (l.length) ⟨[none], [], _, _, _, (by (simp only [Weak, go_sem, List.map_append, List.map_set, *] <;> (try simp (disch := omega) only [q9]) <;> (try simp) <;> (try omega))), 0, [], (by simp), (by simp), (by simp), rfl, rfl, rfl⟩ ?_; rintro _ _ _ _ ⟨i, acc, rfl, hi, hP, rfl, rfl, rfl⟩
 have hlen := congrArg List.length hP
 simp only [zLe, List.length_append, List.length_map, List.length_drop] at hlen
 repeat' (first | (show z3 ..; first | (refine Qr rfl ?_; try intro _ hK; try simp only [go_sem, *])) | (show Hold ..; first | refine Qh rfl ?_ | (refine z7 rfl ⟨_, rfl, fun hb => ?_, fun hb => ?_⟩ <;> (have hc := hb; try simp only [go_sem] at hc)) | refine z8 rfl ?_) | ((with_reducible refine And.intro ?_ ?_); focus omega) | (refine z6 hK ?_; clear hK; simp only [go_sem, *]) | (simp only [z5, z4, go_sem, *]))
 ·have hi2 : i < l.length := by assumption
  refine ⟨_, (by omega), [some 2], [], _, _, _, (by (simp only [Weak, go_sem, List.map_append, List.map_set, *] <;> (try simp (disch := omega) only [q9]) <;> (try simp) <;> (try omega))), i + 1, acc ++ [⟨l.getD i default, 0⟩], rfl, (by omega), (by rw [← hP, v3 hi2]; simp [zLe]), rfl, rfl, rfl⟩
 ·rw [v4 (by omega)] at hP
  have hP2 : acc = zLe l := by simpa [zLe] using hP
  subst hP2
  refine ⟨[_], [], [0], ⟨rfl, trivial⟩, ?_⟩
  simp only [go_sem, *]
  simp [List.take_of_length_le]
theorem zAR (a b c : List Plate) : zLJ prog 80 [y6 a, y6 b, y6 c] [] (y5 [a, b, c]) [] := by
 refine y3 func80 rfl (fun E hE => ?_); simp only [go_sem, ntmps80]
 repeat' (first | (show z3 ..; first | (refine Qr rfl ?_; try intro _ hK; try simp only [go_sem, *])) | (show Hold ..; first | refine Qh rfl ?_ | (refine z7 rfl ⟨_, rfl, fun hb => ?_, fun hb => ?_⟩ <;> (have hc := hb; try simp only [go_sem] at hc)) | refine z8 rfl ?_) | ((with_reducible refine And.intro ?_ ?_); focus omega) | (refine z6 hK ?_; clear hK; simp only [go_sem, *]) | (simp only [z5, z4, go_sem, *]))
 refine ⟨[.agg [.own 1 1 0 3]], [], [1], ⟨by simp only [x9, go_sem], trivial⟩, ?_⟩
 simp only [go_sem, *]
theorem zAP (s n : Int) : zLJ prog 79 [iV s, iV n] [] (atX s n).enc [] := by
 refine y3 func79 rfl (fun E hE => ?_); simp only [go_sem, ntmps79]
 repeat' (first | (show z3 ..; first | (refine Qr rfl ?_; try intro _ hK; try simp only [go_sem, *])) | (show Hold ..; first | refine Qh rfl ?_ | (refine z7 rfl ⟨_, rfl, fun hb => ?_, fun hb => ?_⟩ <;> (have hc := hb; try simp only [go_sem] at hc)) | refine z8 rfl ?_) | ((with_reducible refine And.intro ?_ ?_); focus omega) | (refine z6 hK ?_; clear hK; simp only [go_sem, *]) | (simp only [z5, z4, go_sem, *]))
 refine ⟨[(atX s n).enc], [], [], ⟨(by simp only [x9, go_sem, atX]), trivial⟩, ?_⟩; simp only [go_sem, *]
theorem zCV (s o : Int) : zLJ prog 77 [iV s, iV o] [] (Change.enc ⟨4, s, o, zeroPlate, zeroPlate⟩) [] := by
 refine y3 func77 rfl (fun E hE => ?_); simp only [go_sem, ntmps77]
 repeat' (first | (show z3 ..; first | (refine Qr rfl ?_; try intro _ hK; try simp only [go_sem, *])) | (show Hold ..; first | refine Qh rfl ?_ | (refine z7 rfl ⟨_, rfl, fun hb => ?_, fun hb => ?_⟩ <;> (have hc := hb; try simp only [go_sem] at hc)) | refine z8 rfl ?_) | ((with_reducible refine And.intro ?_ ?_); focus omega) | (refine z6 hK ?_; clear hK; simp only [go_sem, *]) | (simp only [z5, z4, go_sem, *]))
 refine ⟨[Change.enc ⟨4, s, o, zeroPlate, zeroPlate⟩], [], [], ⟨(by simp only [x9, go_sem, zeroPlate]), trivial⟩, ?_⟩; simp only [go_sem, *]
theorem zHk (s : Int) : zLJ prog 123 [iV s] [] (Change.enc ⟨1, s, 0, zeroPlate, zeroPlate⟩) [] := by
 refine y3 func123 rfl (fun E hE => ?_); simp only [go_sem, ntmps123]
 repeat' (first | (show z3 ..; first | (refine Qr rfl ?_; try intro _ hK; try simp only [go_sem, *])) | (show Hold ..; first | refine Qh rfl ?_ | (refine z7 rfl ⟨_, rfl, fun hb => ?_, fun hb => ?_⟩ <;> (have hc := hb; try simp only [go_sem] at hc)) | refine z8 rfl ?_) | ((with_reducible refine And.intro ?_ ?_); focus omega) | (refine z6 hK ?_; clear hK; simp only [go_sem, *]) | (simp only [z5, z4, go_sem, *]))
 refine ⟨[Change.enc ⟨1, s, 0, zeroPlate, zeroPlate⟩], [], [], ⟨(by simp only [x9, go_sem, zeroPlate]), trivial⟩, ?_⟩; simp only [go_sem, *]
theorem zHd (s : Int) : zLJ prog 124 [iV s] [] (Change.enc ⟨2, s, 0, zeroPlate, zeroPlate⟩) [] := by
 refine y3 func124 rfl (fun E hE => ?_); simp only [go_sem, ntmps124]
 repeat' (first | (show z3 ..; first | (refine Qr rfl ?_; try intro _ hK; try simp only [go_sem, *])) | (show Hold ..; first | refine Qh rfl ?_ | (refine z7 rfl ⟨_, rfl, fun hb => ?_, fun hb => ?_⟩ <;> (have hc := hb; try simp only [go_sem] at hc)) | refine z8 rfl ?_) | ((with_reducible refine And.intro ?_ ?_); focus omega) | (refine z6 hK ?_; clear hK; simp only [go_sem, *]) | (simp only [z5, z4, go_sem, *]))
 refine ⟨[Change.enc ⟨2, s, 0, zeroPlate, zeroPlate⟩], [], [], ⟨(by simp only [x9, go_sem, zeroPlate]), trivial⟩, ?_⟩; simp only [go_sem, *]
theorem zHR (k s n : Int) : zLJ prog 82 [iV k, iV s, iV n] [] (Change.enc ⟨k, s, 0, ⟨n, 0⟩, zeroPlate⟩) [] := by
 refine y3 func82 rfl (fun E hE => ?_); simp only [go_sem, ntmps82]
 repeat' (first | (show z3 ..; first | (refine Qr rfl ?_; try intro _ hK; try simp only [go_sem, *])) | (show Hold ..; first | refine Qh rfl ?_ | (refine z7 rfl ⟨_, rfl, fun hb => ?_, fun hb => ?_⟩ <;> (have hc := hb; try simp only [go_sem] at hc)) | refine z8 rfl ?_) | ((with_reducible refine And.intro ?_ ?_); focus omega) | (refine z6 hK ?_; clear hK; simp only [go_sem, *]) | (simp only [z5, z4, go_sem, *]))
 refine ⟨[Change.enc ⟨k, s, 0, ⟨n, 0⟩, zeroPlate⟩], [], [], ⟨(by simp only [x9, go_sem, zeroPlate]), trivial⟩, ?_⟩; simp only [go_sem, *]
theorem zCZ : zLJ prog 76 [] [] (y5 townX) [] := by
 have s1 := F0 [1, 2, 3, 4, 5] (by decide)
 have s2 := F0 [1, 2] (by decide)
 have s3 := zAR (zLe [1, 2, 3, 4, 5]) (zLe [1, 2]) []
 refine y3 func76 rfl (fun E hE => ?_); simp only [go_sem, ntmps76]
 repeat' (first | (show z3 ..; first | (refine Qr rfl ?_; try intro _ hK; try simp only [go_sem, *])) | (show Hold ..; first | refine Qh rfl ?_ | (refine z7 rfl ⟨_, rfl, fun hb => ?_, fun hb => ?_⟩ <;> (have hc := hb; try simp only [go_sem] at hc)) | refine z8 rfl ?_) | ((with_reducible refine And.intro ?_ ?_); focus omega) | (refine z6 hK ?_; clear hK; simp only [go_sem, *]) | (simp only [z5, z4, go_sem, *]))
 (refine r6 (s1) (by simp only [go_sem, *]; done) rfl (by simp only [go_sem]; done) (by simp) (by simp) ?_; simp only [go_sem, w9, *])
 repeat' (first | (show z3 ..; first | (refine Qr rfl ?_; try intro _ hK; try simp only [go_sem, *])) | (show Hold ..; first | refine Qh rfl ?_ | (refine z7 rfl ⟨_, rfl, fun hb => ?_, fun hb => ?_⟩ <;> (have hc := hb; try simp only [go_sem] at hc)) | refine z8 rfl ?_) | ((with_reducible refine And.intro ?_ ?_); focus omega) | (refine z6 hK ?_; clear hK; simp only [go_sem, *]) | (simp only [z5, z4, go_sem, *]))
 (refine r6 (s2) (by simp only [go_sem, *]; done) rfl (by simp only [go_sem]; done) (by simp) (by simp) ?_; simp only [go_sem, w9, *])
 repeat' (first | (show z3 ..; first | (refine Qr rfl ?_; try intro _ hK; try simp only [go_sem, *])) | (show Hold ..; first | refine Qh rfl ?_ | (refine z7 rfl ⟨_, rfl, fun hb => ?_, fun hb => ?_⟩ <;> (have hc := hb; try simp only [go_sem] at hc)) | refine z8 rfl ?_) | ((with_reducible refine And.intro ?_ ?_); focus omega) | (refine z6 hK ?_; clear hK; simp only [go_sem, *]) | (simp only [z5, z4, go_sem, *]))
 (refine r6 (s3) (by simp only [go_sem, *]; done) rfl (by simp only [go_sem]; done) (by simp) (by simp) ?_; simp only [go_sem, w9, *])
 repeat' (first | (show z3 ..; first | (refine Qr rfl ?_; try intro _ hK; try simp only [go_sem, *])) | (show Hold ..; first | refine Qh rfl ?_ | (refine z7 rfl ⟨_, rfl, fun hb => ?_, fun hb => ?_⟩ <;> (have hc := hb; try simp only [go_sem] at hc)) | refine z8 rfl ?_) | ((with_reducible refine And.intro ?_ ?_); focus omega) | (refine z6 hK ?_; clear hK; simp only [go_sem, *]) | (simp only [z5, z4, go_sem, *]))
 refine ⟨[y5 townX], [], [], ⟨(by simp only [x9, go_sem, townX]), trivial⟩, ?_⟩; simp only [go_sem, *]
theorem zHf : zLJ prog 78 [.list []] [] taleX.enc [] := by
 refine y3 func78 rfl (fun E hE => ?_); simp only [go_sem, ntmps78]
 repeat' (first | (show z3 ..; first | (refine Qr rfl ?_; try intro _ hK; try simp only [go_sem, *])) | (show Hold ..; first | refine Qh rfl ?_ | (refine z7 rfl ⟨_, rfl, fun hb => ?_, fun hb => ?_⟩ <;> (have hc := hb; try simp only [go_sem] at hc)) | refine z8 rfl ?_) | (show q7 ..; first | ((first | refine q8 (zCZ) ?_ ?_ | refine q8 (zHk 0) ?_ ?_ | refine q8 (zHd 0) ?_ ?_ | refine q8 (zCV 1 0) ?_ ?_); (focus (simp only [go_sem, *]; done)); simp only [go_sem, *])) | ((with_reducible refine And.intro ?_ ?_); focus omega) | (refine z6 hK ?_; clear hK; simp only [go_sem, *]) | (simp only [z5, z4, go_sem, *]))
 refine ⟨[.agg [.list (townX.map y6), .own 3 1 0 2, .list []]], [], [3], ⟨by simp only [x9, go_sem], trivial⟩, ?_⟩
 simp only [go_sem, *]
 exact ⟨rfl, rfl, rfl⟩
end Go.Abs

namespace Go.Abs
open Go Go.Proofs Tryz
attribute [local irreducible] z3 Hold q7
theorem zGt (a b : List House) (h1 : a.length ≤ 4294967296) : zLJ prog 140 [.list (a.map House.enc), .list (b.map House.enc)] [] (bV (decide (a = b))) [] := by
 refine y3 func140 rfl (fun E hE => ?_); simp only [go_sem, ntmps140]
 repeat' (first | (show z3 ..; first | (refine Qr rfl ?_; try intro _ hK; try simp only [go_sem, *])) | (show Hold ..; first | refine Qh rfl ?_ | refine q6 rfl mixed (by kernel_rfl) ?_ | (refine z7 rfl ⟨_, rfl, fun hb => ?_, fun hb => ?_⟩ <;> (have hc := hb; try simp only [go_sem] at hc)) | refine z8 rfl ?_) | (refine Qb ?_ ?_; focus kernel_rfl) | ((with_reducible refine And.intro ?_ ?_); focus omega) | (refine z6 hK ?_; clear hK; simp only [go_sem, *]) | (simp only [z5, z4, go_sem, *]))
 ·(refine ⟨[_], [], [], ⟨rfl, trivial⟩, ?_⟩; simp only [go_sem, *])
  simp [Q2 (a := a) (b := b) (by assumption)]
 ·have hlb : a.length = b.length := by assumption
  refine y8 rfl (fun zn zN zenv zAs => ∃ (i : Nat), zn = (b.length) - i ∧ i ≤ (b.length) ∧ (a.take i = b.take i) ∧ zN = 26 ∧ zenv = [(13, iV i), (12, iV b.length), (0, .list (a.map House.enc)), (1, .list (b.map House.enc))] ∧ zAs = []) (b.length) ⟨[], [], _, _, _, (by (simp only [Weak, go_sem, List.map_append, List.map_set, *] <;> (try simp (disch := omega) only [q9]) <;> (try simp) <;> (try omega))), 0, (by simp), (by simp), (by simp), rfl, rfl, rfl⟩ ?_; rintro _ _ _ _ ⟨i, rfl, hi, hP, rfl, rfl, rfl⟩
  repeat' (first | (show z3 ..; first | (refine Qr rfl ?_; try intro _ hK; try simp only [go_sem, *])) | (show Hold ..; first | refine Qh rfl ?_ | refine q6 rfl mixed (by kernel_rfl) ?_ | (refine z7 rfl ⟨_, rfl, fun hb => ?_, fun hb => ?_⟩ <;> (have hc := hb; try simp only [go_sem] at hc)) | refine z8 rfl ?_) | (refine Qb ?_ ?_; focus kernel_rfl) | ((with_reducible refine And.intro ?_ ?_); focus omega) | (refine z6 hK ?_; clear hK; simp only [go_sem, *]) | (simp only [z5, z4, go_sem, *]))
  ·(refine ⟨[_], [], [], ⟨rfl, trivial⟩, ?_⟩; simp only [go_sem, *])
   simp [Y2 (a := a) (b := b) (i := i) (by assumption)]
  ·refine ⟨_, (by omega), [], [], _, _, _, (by (simp only [Weak, go_sem, List.map_append, List.map_set, *] <;> (try simp (disch := omega) only [q9]) <;> (try simp) <;> (try omega))), i + 1, rfl, (by omega), (by exact Y1 (by omega) (by omega) hP (by assumption)), rfl, rfl, rfl⟩
  ·(refine ⟨[_], [], [], ⟨rfl, trivial⟩, ?_⟩; simp only [go_sem, *])
   simp [Y0 (by omega) hlb hP]
theorem zFh (m c : Nat) : zL7 (m : Int) (c : Int) = ((max m c : Nat) : Int) := by unfold zL7; split <;> omega
theorem zEa {α : Type} [Inhabited α] {l : List α} {f : Nat → α → Nat} {i m : Nat} (hi : i < l.length) : (l.drop i).foldl f m = (l.drop (i + 1)).foldl f (f m (l.getD i default)) := by
 rw [v3 hi, List.foldl_cons]
theorem zDV {α : Type} [Inhabited α] {l : List α} {f : α → Bool} {i : Nat} (hi : i < l.length) : (l.drop i).countP f = (if f (l.getD i default) = true then 1 else 0) + (l.drop (i + 1)).countP f := by
 rw [v3 hi, List.countP_cons]; omega
theorem zCI (l : List Truth) (h : House) (x : Truth) : e7 l h x ≤ l.length := List.countP_le_length
theorem zBK (l : List Truth) (h : House) : p9 l h ≤ l.length := by
 unfold p9
 have key : ∀ (r : List Truth) (m : Nat), m ≤ l.length → r.foldl (fun m x => max m (e7 l h x)) m ≤ l.length := fun r => by
  induction r with
  | nil => intro m hm; exact hm
  | cons x r ih =>
   intro m hm
   have h1 := zCI l h x
   have h2 : max m (e7 l h x) ≤ l.length := by omega
   exact ih _ h2
 exact key l 0 (by omega)
theorem zHD (p : zLI) (l : List Truth) (h : House) (v : Valid p) (hh : h ∈ y4 p) (hl : l.length ≤ 1000) (hnl : ∀ t, t ∈ l → (t.now h).length ≤ 1000) :
  zLJ prog 101 [.list (l.map (Truth.enc p)), h.enc] [] (iV (p9 l h)) [] := by
 have hw := v.wf
 have hwf := hw _ hh
 have hG0 : (l.drop 0).foldl (fun m x => max m (e7 l h x)) 0 = p9 l h := rfl
 have hGl := zBK l h
 generalize p9 l h = G at *
 refine y3 func101 rfl (fun E hE => ?_); simp only [go_sem, ntmps101]
 repeat' (first | (show z3 ..; first | (refine Qr rfl ?_; try intro _ hK; try simp only [go_sem, *])) | (show Hold ..; first | refine Qh rfl ?_ | refine q6 rfl mixed (by kernel_rfl) ?_ | (refine z7 rfl ⟨_, rfl, fun hb => ?_, fun hb => ?_⟩ <;> (have hc := hb; try simp only [go_sem] at hc)) | refine z8 rfl ?_) | (refine Qb ?_ ?_; focus kernel_rfl) | ((with_reducible refine And.intro ?_ ?_); focus omega) | (refine z6 hK ?_; clear hK; simp only [go_sem, *]) | (simp only [z5, z4, go_sem, *]))
 refine y8 rfl (fun zn zN zenv zAs => ∃ (i : Nat) (m : Nat), zn = (l.length) - i ∧ i ≤ (l.length) ∧ ((l.drop i).foldl (fun m x => max m (e7 l h x)) m = G) ∧ zN = 40 ∧ zenv = [(13, iV i), (12, iV l.length), (11, .list (l.map (Truth.enc p))), (0, .list (l.map (Truth.enc p))), (5, iV m), (3, .ptr 0 0)] ∧ zAs = [.box [iV h.street, iV h.plate.number, iV h.plate.letter]]) (l.length) ⟨[some 0], [], _, _, _, (by (simp only [Weak, go_sem, List.map_append, List.map_set, *] <;> (try simp (disch := omega) only [q9]) <;> (try simp) <;> (try omega))), 0, 0, (by simp), (by simp), (by exact hG0), rfl, rfl, rfl⟩ ?_; rintro _ _ _ _ ⟨i, m, rfl, hi, hP, rfl, rfl, rfl⟩
 by_cases hi2 : i < l.length
 ·rw [zEa hi2] at hP
  have hxl := hnl _ (w6 hi2)
  repeat' (first | (show z3 ..; first | (refine Qr rfl ?_; try intro _ hK; try simp only [go_sem, *])) | (show Hold ..; first | refine Qh rfl ?_ | refine q6 rfl mixed (by kernel_rfl) ?_ | (refine z7 rfl ⟨_, rfl, fun hb => ?_, fun hb => ?_⟩ <;> (have hc := hb; try simp only [go_sem] at hc)) | refine z8 rfl ?_) | (refine Qb ?_ ?_; focus kernel_rfl) | ((with_reducible refine And.intro ?_ ?_); focus omega) | (refine z6 hK ?_; clear hK; simp only [go_sem, *]) | (simp only [z5, z4, go_sem, *]))
  generalize hx : l.getD i default = x at *
  refine y8 rfl (fun zn zN zenv zAs => ∃ (j : Nat) (n : Nat), zn = (l.length) - j ∧ j ≤ (l.length) ∧ (n + (l.drop j).countP (fun y => decide (x.now h = y.now h)) = e7 l h x) ∧ zN = 40 ∧ zenv = [(19, iV j), (18, iV l.length), (17, .list (l.map (Truth.enc p))), (8, iV n), (7, .ptr 1 0), (13, iV i), (12, iV l.length), (11, .list (l.map (Truth.enc p))), (0, .list (l.map (Truth.enc p))), (5, iV m), (3, .ptr 0 0)] ∧ zAs = [.box [iV h.street, iV h.plate.number, iV h.plate.letter], .box [.list (x.ways.map iV), .list (x.fin.map y6), .fmap (w5 p) (w4 p x.now)]]) (l.length) ⟨[some 0, some 1], [], _, _, _, (by (simp only [Weak, go_sem, List.map_append, List.map_set, *] <;> (try simp (disch := omega) only [q9]) <;> (try simp) <;> (try omega))), 0, 0, (by simp), (by simp), (by simp [e7]), rfl, rfl, rfl⟩ ?_; rintro _ _ _ _ ⟨j, n, rfl, hj, hQ, rfl, rfl, rfl⟩
  by_cases hj2 : j < l.length
  ·rw [zDV hj2] at hQ
   have hyl := hnl _ (w6 hj2)
   have hsl := zCI l h x
   generalize hy : l.getD j default = y at *
   have sc := zGt (x.now h) (y.now h) (by omega)
   by_cases q : x.now h = y.now h
   ·have q' : decide (x.now h = y.now h) = true := by simpa using q
    rw [q'] at sc hQ
    clear q q'
    repeat' (first | (show z3 ..; first | (refine Qr rfl ?_; try intro _ hK; try simp only [go_sem, *])) | (show Hold ..; first | refine Qh rfl ?_ | refine q6 rfl mixed (by kernel_rfl) ?_ | (refine z7 rfl ⟨_, rfl, fun hb => ?_, fun hb => ?_⟩ <;> (have hc := hb; try simp only [go_sem] at hc)) | refine z8 rfl ?_) | (refine Qb ?_ ?_; focus kernel_rfl) | ((with_reducible refine And.intro ?_ ?_); focus omega) | (refine z6 hK ?_; clear hK; simp only [go_sem, *]) | (simp only [z5, z4, go_sem, *]))
    refine X5 (h := h) (hs := y4 p) (F := zLN x.now) hw hwf ?_
    rw [if_pos hh, zLN]
    repeat' (first | (show z3 ..; first | (refine Qr rfl ?_; try intro _ hK; try simp only [go_sem, *])) | (show Hold ..; first | refine Qh rfl ?_ | refine q6 rfl mixed (by kernel_rfl) ?_ | (refine z7 rfl ⟨_, rfl, fun hb => ?_, fun hb => ?_⟩ <;> (have hc := hb; try simp only [go_sem] at hc)) | refine z8 rfl ?_) | (refine Qb ?_ ?_; focus kernel_rfl) | ((with_reducible refine And.intro ?_ ?_); focus omega) | (refine z6 hK ?_; clear hK; simp only [go_sem, *]) | (simp only [z5, z4, go_sem, *]))
    refine X5 (h := h) (hs := y4 p) (F := zLN y.now) hw hwf ?_
    rw [if_pos hh, zLN]
    repeat' (first | (show z3 ..; first | (refine Qr rfl ?_; try intro _ hK; try simp only [go_sem, *])) | (show Hold ..; first | refine Qh rfl ?_ | refine q6 rfl mixed (by kernel_rfl) ?_ | (refine z7 rfl ⟨_, rfl, fun hb => ?_, fun hb => ?_⟩ <;> (have hc := hb; try simp only [go_sem] at hc)) | refine z8 rfl ?_) | (refine Qb ?_ ?_; focus kernel_rfl) | (show q7 ..; first | (refine q8 (sc) ?_ ?_; (focus (simp only [go_sem, *]; done)); simp only [go_sem, *])) | ((with_reducible refine And.intro ?_ ?_); focus omega) | (refine z6 hK ?_; clear hK; simp only [go_sem, *]) | (simp only [z5, z4, go_sem, *]))
    all_goals try contradiction
    refine ⟨_, (by omega), [some 0, some 1], [], _, _, _, (by (simp only [Weak, go_sem, List.map_append, List.map_set, *] <;> (try simp (disch := omega) only [q9]) <;> (try simp) <;> (try omega))), j + 1, n + 1, rfl, (by omega), (by rw [← hQ]; simp; omega), rfl, rfl, rfl⟩
   ·have q' : decide (x.now h = y.now h) = false := by simpa using q
    rw [q'] at sc hQ
    clear q q'
    repeat' (first | (show z3 ..; first | (refine Qr rfl ?_; try intro _ hK; try simp only [go_sem, *])) | (show Hold ..; first | refine Qh rfl ?_ | refine q6 rfl mixed (by kernel_rfl) ?_ | (refine z7 rfl ⟨_, rfl, fun hb => ?_, fun hb => ?_⟩ <;> (have hc := hb; try simp only [go_sem] at hc)) | refine z8 rfl ?_) | (refine Qb ?_ ?_; focus kernel_rfl) | ((with_reducible refine And.intro ?_ ?_); focus omega) | (refine z6 hK ?_; clear hK; simp only [go_sem, *]) | (simp only [z5, z4, go_sem, *]))
    refine X5 (h := h) (hs := y4 p) (F := zLN x.now) hw hwf ?_
    rw [if_pos hh, zLN]
    repeat' (first | (show z3 ..; first | (refine Qr rfl ?_; try intro _ hK; try simp only [go_sem, *])) | (show Hold ..; first | refine Qh rfl ?_ | refine q6 rfl mixed (by kernel_rfl) ?_ | (refine z7 rfl ⟨_, rfl, fun hb => ?_, fun hb => ?_⟩ <;> (have hc := hb; try simp only [go_sem] at hc)) | refine z8 rfl ?_) | (refine Qb ?_ ?_; focus kernel_rfl) | ((with_reducible refine And.intro ?_ ?_); focus omega) | (refine z6 hK ?_; clear hK; simp only [go_sem, *]) | (simp only [z5, z4, go_sem, *]))
    refine X5 (h := h) (hs := y4 p) (F := zLN y.now) hw hwf ?_
    rw [if_pos hh, zLN]
    repeat' (first | (show z3 ..; first | (refine Qr rfl ?_; try intro _ hK; try simp only [go_sem, *])) | (show Hold ..; first | refine Qh rfl ?_ | refine q6 rfl mixed (by kernel_rfl) ?_ | (refine z7 rfl ⟨_, rfl, fun hb => ?_, fun hb => ?_⟩ <;> (have hc := hb; try simp only [go_sem] at hc)) | refine z8 rfl ?_) | (refine Qb ?_ ?_; focus kernel_rfl) | (show q7 ..; first | (refine q8 (sc) ?_ ?_; (focus (simp only [go_sem, *]; done)); simp only [go_sem, *])) | ((with_reducible refine And.intro ?_ ?_); focus omega) | (refine z6 hK ?_; clear hK; simp only [go_sem, *]) | (simp only [z5, z4, go_sem, *]))
    all_goals try contradiction
    refine ⟨_, (by omega), [some 0, some 1], [], _, _, _, (by (simp only [Weak, go_sem, List.map_append, List.map_set, *] <;> (try simp (disch := omega) only [q9]) <;> (try simp) <;> (try omega))), j + 1, n, rfl, (by omega), (by rw [← hQ]; simp), rfl, rfl, rfl⟩
  ·rw [v4 (by omega)] at hQ
   have hn : n = e7 l h x := by simpa using hQ
   subst hn
   have hmx := zFh m (e7 l h x)
   repeat' (first | (show z3 ..; first | (refine Qr rfl ?_; try intro _ hK; try simp only [go_sem, *])) | (show Hold ..; first | refine Qh rfl ?_ | refine q6 rfl mixed (by kernel_rfl) ?_ | (refine z7 rfl ⟨_, rfl, fun hb => ?_, fun hb => ?_⟩ <;> (have hc := hb; try simp only [go_sem] at hc)) | refine z8 rfl ?_) | (refine Qb ?_ ?_; focus kernel_rfl) | ((with_reducible refine And.intro ?_ ?_); focus omega) | (refine z6 hK ?_; clear hK; simp only [go_sem, *]) | (simp only [z5, z4, go_sem, *]))
   refine ⟨_, (by omega), [some 0], [], _, _, _, (by (simp only [Weak, go_sem, List.map_append, List.map_set, *] <;> (try simp (disch := omega) only [q9]) <;> (try simp) <;> (try omega))), i + 1, max m (e7 l h x), rfl, (by omega), (by exact hP), rfl, rfl, rfl⟩
 ·rw [v4 (by omega)] at hP
  have hP2 : m = G := hP
  subst hP2
  repeat' (first | (show z3 ..; first | (refine Qr rfl ?_; try intro _ hK; try simp only [go_sem, *])) | (show Hold ..; first | refine Qh rfl ?_ | refine q6 rfl mixed (by kernel_rfl) ?_ | (refine z7 rfl ⟨_, rfl, fun hb => ?_, fun hb => ?_⟩ <;> (have hc := hb; try simp only [go_sem] at hc)) | refine z8 rfl ?_) | (refine Qb ?_ ?_; focus kernel_rfl) | ((with_reducible refine And.intro ?_ ?_); focus omega) | (refine z6 hK ?_; clear hK; simp only [go_sem, *]) | (simp only [z5, z4, go_sem, *]))
  (refine ⟨[_], [], [], ⟨rfl, trivial⟩, ?_⟩; simp only [go_sem, *])
theorem zGh (a b : Int) : zLJ prog 103 [iV a, iV b] [] (iV (IntKind.i64.wrap (a - b))) [] := by
 refine y3 func103 rfl (fun E hE => ?_); simp only [go_sem, ntmps103]
 repeat' (first | (show z3 ..; first | (refine Qr rfl ?_; try intro _ hK; try simp only [go_sem, *])) | (show Hold ..; first | refine Qh rfl ?_ | (refine z7 rfl ⟨_, rfl, fun hb => ?_, fun hb => ?_⟩ <;> (have hc := hb; try simp only [go_sem] at hc)) | refine z8 rfl ?_) | ((with_reducible refine And.intro ?_ ?_); focus omega) | (refine z6 hK ?_; clear hK; simp only [go_sem, *]) | (simp only [z5, z4, go_sem, *]))
 (refine ⟨[_], [], [], ⟨rfl, trivial⟩, ?_⟩; simp only [go_sem, *])
theorem zFT {g : List Nat} {i : Nat} {a : Int} (hi : i < g.length) : a7 g (g.drop i) i a = a7 g (g.drop (i + 1)) (i + 1) (if a < 0 ∨ g.getD i default < g.getD a.toNat 0 then i else a) := by
 rw [v3 hi, a7]
theorem zBh (g : List Nat) : ∀ (r : List Nat) (i : Nat) (a : Int), r.length + i = g.length → -1 ≤ a ∧ a < g.length → -1 ≤ a7 g r i a ∧ a7 g r i a < g.length
 | [], _, a, _, h => h
 | x :: r, i, a, hl, h => by
  rw [a7]
  refine zBh g r (i + 1) _ (by simp at hl; omega) ?_
  split
  ·simp at hl; omega
  ·exact h
theorem zFU {g : List Nat} (h : 0 < g.length) : -1 ≤ i9 g ∧ i9 g < g.length := zBh g g 0 (-1) (by omega) (by omega)
theorem zHO (g : List Nat) (hl : g.length ≤ 1000) (hs : ∀ x, x ∈ g → x ≤ 1000) :
  zLJ prog 102 [.list (g.map fun n => iV (n : Nat)), fnV 103] [] (iV (i9 g)) [] := by
 have hca : r5 prog 103 = true := by kernel_rfl
 have hG0 : a7 g (g.drop 0) 0 (-1) = i9 g := rfl
 generalize i9 g = G at *
 refine y3 func102 rfl (fun E hE => ?_); simp only [go_sem, ntmps102]
 repeat' (first | (show z3 ..; first | (refine Qr rfl ?_; try intro _ hK; try simp only [go_sem, *]) | (refine Qi rfl rfl rfl rfl (fun hb _ hK => ?_) (fun hb => ?_) <;> (have hc := hb; try simp only [go_sem] at hc; simp only [go_sem, *]))) | (show Hold ..; first | refine Qh rfl ?_ | (refine z7 rfl ⟨_, rfl, fun hb => ?_, fun hb => ?_⟩ <;> (have hc := hb; try simp only [go_sem] at hc)) | refine z8 rfl ?_) | ((with_reducible refine And.intro ?_ ?_); focus omega) | (refine z6 hK ?_; clear hK; simp only [go_sem, *]) | (simp only [z5, z4, go_sem, *]))
 refine y8 rfl (fun zn zN zenv zAs => ∃ (i : Nat) (a : Int), zn = (g.length) - i ∧ i ≤ (g.length) ∧ (a7 g (g.drop i) i a = G ∧ -1 ≤ a ∧ a < i) ∧ zN = 30 ∧ zenv = [(10, iV i), (9, iV g.length), (8, .list (g.map fun n => iV (n : Nat))), (0, .list (g.map fun n => iV (n : Nat))), (1, fnV 103), (5, iV a)] ∧ zAs = []) (g.length) ⟨[], [], _, _, _, (by (simp only [Weak, go_sem, List.map_append, List.map_set, *] <;> (try simp (disch := omega) only [q9]) <;> (try simp) <;> (try omega))), 0, -1, (by simp), (by simp), (by exact ⟨hG0, by omega, by omega⟩), rfl, rfl, rfl⟩ ?_; rintro _ _ _ _ ⟨i, a, rfl, hi, hP, rfl, rfl, rfl⟩
 obtain ⟨hP, ha1, ha2⟩ := hP
 by_cases hi2 : i < g.length
 ·rw [zFT hi2] at hP
  have hx := hs _ (w6 hi2)
  by_cases ha : a < 0
  ·have hd : decide (a < 0) = true := by simpa using ha
   rw [if_pos (.inl ha)] at hP
   repeat' (first | (show z3 ..; first | (refine Qr rfl ?_; try intro _ hK; try simp only [go_sem, *]) | (refine Qi rfl rfl rfl rfl (fun hb _ hK => ?_) (fun hb => ?_) <;> (have hc := hb; try simp only [go_sem] at hc; simp only [go_sem, *]))) | (show Hold ..; first | refine Qh rfl ?_ | (refine z7 rfl ⟨_, rfl, fun hb => ?_, fun hb => ?_⟩ <;> (have hc := hb; try simp only [go_sem] at hc)) | refine z8 rfl ?_) | ((with_reducible refine And.intro ?_ ?_); focus omega) | (refine z6 hK ?_; clear hK; simp only [go_sem, *]) | (simp only [z5, z4, go_sem, *]))
   all_goals try contradiction
   refine ⟨_, (by omega), [], [], _, _, _, (by (simp only [Weak, go_sem, List.map_append, List.map_set, *] <;> (try simp (disch := omega) only [q9]) <;> (try simp) <;> (try omega))), i + 1, (i : Int), rfl, (by omega), (by exact ⟨hP, by omega, by omega⟩), rfl, rfl, rfl⟩
  ·obtain ⟨k, rfl⟩ : ∃ k : Nat, a = (k : Int) := ⟨a.toNat, by omega⟩
   have hk : k < g.length := by omega
   have hy := hs _ (w6 hk)
   have hd : decide ((k : Int) < 0) = false := by simp
   have hkl : ((k : Int) < (g.length : Int)) := by omega
   have e0 : g.getD (k : Int).toNat 0 = g.getD k default := rfl
   rw [e0] at hP
   clear e0
   have sa := zGh ((g.getD i default : Nat) : Int) ((g.getD k default : Nat) : Int)
   rw [wrap_i64 (by omega) (by omega)] at sa
   by_cases hc0 : g.getD i default < g.getD k default
   ·rw [if_pos (.inr hc0)] at hP
    have hd2 : ((g.getD i default : Nat) : Int) - ((g.getD k default : Nat) : Int) < 0 := by omega
    repeat' (first | (show z3 ..; first | (refine Qr rfl ?_; try intro _ hK; try simp only [go_sem, *]) | (refine Qi rfl rfl rfl rfl (fun hb _ hK => ?_) (fun hb => ?_) <;> (have hc := hb; try simp only [go_sem] at hc; simp only [go_sem, *]))) | (show Hold ..; first | refine Qh rfl ?_ | (refine z7 rfl ⟨_, rfl, fun hb => ?_, fun hb => ?_⟩ <;> (have hc := hb; try simp only [go_sem] at hc)) | refine z8 rfl ?_) | (show q7 ..; first | (refine q8 (sa) ?_ ?_; (focus (simp only [go_sem, *]; done)); simp only [go_sem, *])) | ((with_reducible refine And.intro ?_ ?_); focus omega) | (refine z6 hK ?_; clear hK; simp only [go_sem, *]) | (simp only [z5, z4, go_sem, *]))
    all_goals try contradiction
    all_goals first | omega | skip
    refine ⟨_, (by omega), [], [], _, _, _, (by (simp only [Weak, go_sem, List.map_append, List.map_set, *] <;> (try simp (disch := omega) only [q9]) <;> (try simp) <;> (try omega))), i + 1, (i : Int), rfl, (by omega), (by exact ⟨hP, by omega, by omega⟩), rfl, rfl, rfl⟩
   ·rw [if_neg (by omega)] at hP
    have hd2 : ¬ ((g.getD i default : Nat) : Int) - ((g.getD k default : Nat) : Int) < 0 := by omega
    repeat' (first | (show z3 ..; first | (refine Qr rfl ?_; try intro _ hK; try simp only [go_sem, *]) | (refine Qi rfl rfl rfl rfl (fun hb _ hK => ?_) (fun hb => ?_) <;> (have hc := hb; try simp only [go_sem] at hc; simp only [go_sem, *]))) | (show Hold ..; first | refine Qh rfl ?_ | (refine z7 rfl ⟨_, rfl, fun hb => ?_, fun hb => ?_⟩ <;> (have hc := hb; try simp only [go_sem] at hc)) | refine z8 rfl ?_) | (show q7 ..; first | (refine q8 (sa) ?_ ?_; (focus (simp only [go_sem, *]; done)); simp only [go_sem, *])) | ((with_reducible refine And.intro ?_ ?_); focus omega) | (refine z6 hK ?_; clear hK; simp only [go_sem, *]) | (simp only [z5, z4, go_sem, *]))
    all_goals try contradiction
    all_goals first | omega | skip
    refine ⟨_, (by omega), [], [], _, _, _, (by (simp only [Weak, go_sem, List.map_append, List.map_set, *] <;> (try simp (disch := omega) only [q9]) <;> (try simp) <;> (try omega))), i + 1, (k : Int), rfl, (by omega), (by exact ⟨hP, by omega, by omega⟩), rfl, rfl, rfl⟩
 ·rw [v4 (by omega)] at hP
  have hP2 : a = G := hP
  subst hP2
  repeat' (first | (show z3 ..; first | (refine Qr rfl ?_; try intro _ hK; try simp only [go_sem, *]) | (refine Qi rfl rfl rfl rfl (fun hb _ hK => ?_) (fun hb => ?_) <;> (have hc := hb; try simp only [go_sem] at hc; simp only [go_sem, *]))) | (show Hold ..; first | refine Qh rfl ?_ | (refine z7 rfl ⟨_, rfl, fun hb => ?_, fun hb => ?_⟩ <;> (have hc := hb; try simp only [go_sem] at hc)) | refine z8 rfl ?_) | ((with_reducible refine And.intro ?_ ?_); focus omega) | (refine z6 hK ?_; clear hK; simp only [go_sem, *]) | (simp only [z5, z4, go_sem, *]))
  (refine ⟨[_], [], [], ⟨rfl, trivial⟩, ?_⟩; simp only [go_sem, *])
end Go.Abs

namespace Go.Abs
open Go Go.Proofs Tryz
attribute [local irreducible] z3 Hold q7
section
variable {P : Program} {E : Env} {Q : Exit → AS → Prop} {σ : AS} {p : List Nat} {b c : Code} {l : Nat}
def zAA : Code → Code
 | .rangeFunc _ _ a _ => a
 | _ => .skip
def zAB : Code → Code
 | .rangeFunc _ _ _ b => b
 | _ => .skip
def zFL : Code → Option (Operand × Array Tmp)
 | .rangeFunc g ps _ _ => some (g, ps)
 | _ => none
theorem zCA {id : Nat} {ops : List Oper} (h : c = .region id ops.toArray false) (hx : z3 P ops (fun σ' _ => Q .normal σ') ops σ []) : HoldR l P E c Q σ := by rw [h]; exact zEu hx
theorem zGI {id : Nat} (h : zBb c = some id) (hx : HoldR l P E (zA0 0 c) (z4 id Q) σ) : HoldR l P E c Q σ := by
 cases c with
 | block i c => cases h; exact zEt hx
 | _ => cases h
theorem zGZ {g : Operand} {ps : Array Tmp} (h : zFL (sub p b) = some (g, ps)) {f : FuncId} {caps : List AV} (hg : σ.ev g = .fn f caps) (hc : r5 P f = true) {nx : Nat} (hnx : σ.obj nx = .unb)
  (hx : ∀ fn, ∃ nx', q7 P f (.yld nx :: caps) (σ.setO nx (.loopo ⟨fn, ps, zAA (sub p b), zAB (sub p b), σ.n⟩ σ.env (some none))).obj nx' (fun _ _ wr => zCB P E Q nx ((σ.setO nx (.loopo ⟨fn, ps, zAA (sub p b), zAB (sub p b), σ.n⟩ σ.env (some none))).writes wr))) : Hold P E (sub p b) Q σ := by
 cases hq : sub p b with
 | rangeFunc g' ps' a b' =>
  rw [hq] at h hx; cases h
  exact zE1 hg hc hnx hx
 | _ => rw [hq] at h; cases h
theorem zGc {id : Nat} {ops : List Oper} (k : Nat) (h : sub p b = .region id ops.toArray false) {o : Oper} (hk : ops[k]? = some o) {fo : Operand} {args : Array Operand} {ts : Array TypeId} (hop : o.op = .call ⟨.value fo, args, ts⟩)
  (hx : z3 P ops (fun σ1 _ => l1 ops σ1 o
   ((match o.dst with | some d => ltN d σ1.n | none => True) ∧ F5 P (σ1.ev fo) (args.toList.map σ1.ev) σ1.obj σ1.nx (fun v _ wr => z3 P ops (fun σ' _ => Q .normal σ') (ops.drop (k + 1)) ((σ1.writes wr).putD o.dst v) []))
   ((match o.dst with | some d => ltN d σ1.n | none => True) ∧ z3 P ops (fun σ' _ => Q .normal σ') (ops.drop (k + 1)) (σ1.putD o.dst (.tup [])) [])) (ops.take k) σ []) : Hold P E (sub p b) Q σ := by
 obtain ⟨hlt, he⟩ := List.getElem?_eq_some_iff.1 hk
 have e : ops = ops.take k ++ o :: ops.drop (k + 1) := by
  rw [← he, ← List.drop_eq_getElem_cons hlt, List.take_append_drop]
 obtain ⟨pre, hpre⟩ : ∃ pre, pre = ops.take k := ⟨_, rfl⟩
 obtain ⟨post, hpost⟩ : ∃ post, post = ops.drop (k + 1) := ⟨_, rfl⟩
 rw [← hpre, ← hpost] at e hx
 rw [h]
 clear h hk he hlt hpre hpost
 subst e
 exact zE6 hop hx
end
theorem zEi {all : List Oper} {σ : AS} {o : Oper} {j d : Nat} {want : Bool} {Y N : Prop} (hg : o.guard = some (j, want)) (hj : (all[j]?).bind (·.dst) = some d) (hv : σ.get d = .raw (.bool want)) (h : Y) : l1 all σ o Y N := by
 unfold l1
 rw [hg]
 simp only [hj, hv]
 show gIf want want Y N
 unfold gIf
 exact ⟨fun _ => h, fun e => by cases want <;> cases e⟩
theorem zIK {P : Program} {y : AV} {avs : List AV} {H : Nat → AObj} {nx : Nat} {K : Cont} {oid : Nat} (ids ex : List Nat) {args : List AV} {fp : List AObj} {r : AV} {out : List AObj} (sp : E0 P args fp r out)
  (hy : y = .yld oid) (hh : ids.head? = some oid) (h1 : ids.Nodup) (h2 : XpL H (ids.map some) ex args avs) (h3 : fpsF H (ids.map some) ex fp ids) (h4 : ∀ o, o ∈ ex → o ∉ ids) (h5 : ex = [] ∨ (Scal r ∧ ∀ A, A ∈ out → O4 A))
  (h6 : ∀ j, j < out.length - ids.length → H (nx + j) = .unb) (h7 : ∀ A, A ∈ out → A ≠ .unb) (hk : K (r.ren (v7 ids nx)) (ids ++ ex ++ f7 ids nx out) (s8 ids nx out)) : F5 P y avs H nx K := by
 refine ⟨oid, ids, ex, args, fp, r, out, hy, hh, ⟨sp, h1, h4, ?_, (fpsF.sound h3).1, fun k h => ?_, h5, h6, h7⟩, hk⟩
 ·rw [← H9]; exact XpL.all2 h2
 ·rw [← H9]; exact (fpsF.sound h3).2 k h
theorem zAv {P : Program} {f : FuncId} {avs as' args : List AV} {H : Nat → AObj} {nx : Nat} {K : Cont} {r : AV} {fp out : List AObj} (ids gone : List Nat) (sp : zLJ P f args fp r out) (ha : (avs.map fun x => (zLK H 3 x).1) = as') (hg : (avs.map fun x => (zLK H 3 x).2).flatten = gone)
  (h1 : ids.Nodup) (h2 : XpL (fun o => if o ∈ gone then .dead else H o) (ids.map some) [] args as') (h3 : fpsF (fun o => if o ∈ gone then .dead else H o) (ids.map some) [] fp ids)
  (h6 : ∀ j, j < out.length - ids.length → (if nx + j ∈ gone then AObj.dead else H (nx + j)) = .unb) (h7 : ∀ A, A ∈ out → A ≠ .unb)
  (hk : K (r.ren (v7 ids nx)) (gone ++ (ids ++ f7 ids nx out)) (w9 gone ++ s8 ids nx out)) : q7 P f avs H nx K := by
 refine zAu ?_
 rw [ha, hg]
 exact E4 ids [] sp h1 h2 h3 (by simp) (.inl rfl) h6 h7 (by simpa using hk)
theorem O5 {H : Nat → AObj} {m : List (Option Nat)} {ex : List Nat} {x y : AV} : ∀ (xs : List AV), (∀ z, z ∈ xs → XpF H m ex z z) → (XpL H m ex (xs ++ [x]) (xs ++ [y]) ↔ XpF H m ex x y)
 | [], _ => by simp only [List.nil_append, F8, zAj, and_true]
 | z :: r, h => by
  simp only [List.cons_append, F8]
  rw [O5 r (fun z hz => h z (by simp [hz]))]
  exact ⟨fun h => h.2, fun h2 => ⟨h z (by simp), h2⟩⟩
@[go_sem] theorem zIh (H : Nat → AObj) (m : List (Option Nat)) (ex : List Nat) (x y : AV) (p : zLI) : XpL H m ex (List.map y6 p ++ [x]) (List.map y6 p ++ [y]) ↔ XpF H m ex x y :=
 O5 _ (fun z hz => by
  obtain ⟨l, _, rfl⟩ := List.mem_map.1 hz
  simp only [XpF])
@[go_sem] theorem zIk (H : Nat → AObj) (m : List (Option Nat)) (ex : List Nat) (x y : AV) (i : Nat) (p : zLI) : XpL H m ex (List.take i (List.map y6 p) ++ [x]) (List.take i (List.map y6 p) ++ [y]) ↔ XpF H m ex x y :=
 O5 _ (fun z hz => by
  obtain ⟨l, _, rfl⟩ := List.mem_map.1 (List.mem_of_mem_take hz)
  simp only [XpF])
theorem zG7 (p : zLI) (v : Valid p) : zLJ prog 112 [y5 p] [] (y5 p) [] := by
 have hp3 := v.len
 refine y3 func112 rfl (fun E hE => ?_); simp only [go_sem, ntmps112]
 repeat' (first | (show z3 ..; first | (refine Qr rfl ?_; try intro _ hK; try simp only [go_sem, *])) | (show Hold ..; first | refine Qh rfl ?_ | refine q6 rfl mixed (by kernel_rfl) ?_ | (refine z7 rfl ⟨_, rfl, fun hb => ?_, fun hb => ?_⟩ <;> (have hc := hb; try simp only [go_sem] at hc)) | refine z8 rfl ?_) | (refine Qb ?_ ?_; focus kernel_rfl) | ((with_reducible refine And.intro ?_ ?_); focus omega) | (refine z6 hK ?_; clear hK; simp only [go_sem, *]) | (simp only [z5, z4, go_sem, *]))
 refine y8 rfl (fun zn zN zenv zAs => ∃ (i : Nat), zn = (p.length) - i ∧ i ≤ (p.length) ∧ (NoP i) ∧ zN = 23 ∧ zenv = [(10, iV i), (9, iV p.length), (8, .list (p.map y6)), (2, .ptr 0 0), (3, .ptr 1 0)] ∧ zAs = [.box [zLb], .box [.own 2 1 0 i], .box ((p.take i).map y6)]) (p.length) ⟨[some 1, some 2, none], [], _, _, _, (by (simp only [Weak, go_sem, List.map_append, List.map_set, *] <;> (try simp (disch := omega) only [q9]) <;> (try simp) <;> (try omega))), 0, (by simp), (by simp), (by trivial), rfl, rfl, rfl⟩ ?_; rintro _ _ _ _ ⟨i, rfl, hi, hP, rfl, rfl, rfl⟩
 by_cases hi2 : i < p.length
 ·have hr := (v.rows _ (w6 hi2)).len
  have sc := zGl (p.getD i default) (by omega)
  have e := j0 (l := p) (i := i) hi2
  repeat' (first | (show z3 ..; first | (refine Qr rfl ?_; try intro _ hK; try simp only [go_sem, *])) | (show Hold ..; first | refine Qh rfl ?_ | refine q6 rfl mixed (by kernel_rfl) ?_ | (refine z7 rfl ⟨_, rfl, fun hb => ?_, fun hb => ?_⟩ <;> (have hc := hb; try simp only [go_sem] at hc)) | refine z8 rfl ?_) | (refine Qb ?_ ?_; focus kernel_rfl) | (show q7 ..; first | (refine v5 (sc) ?_ ?_ ?_ ?_; (focus (simp only [go_sem, *]; done)); (focus (first | (simp; done) | (simp [go_sem]; done))); (focus (first | (simp; done) | (simp [go_sem]; done))); simp only [go_sem, *])) | ((with_reducible refine And.intro ?_ ?_); focus omega) | (refine z6 hK ?_; clear hK; simp only [go_sem, *]) | (simp only [z5, z4, go_sem, *]))
  refine ⟨_, (by omega), [some 0, some 1, some 5], [3], _, _, _, (by (simp only [Weak, go_sem, List.map_append, List.map_set, *] <;> (try simp (disch := omega) only [q9]) <;> (try simp) <;> (try omega))), i + 1, rfl, (by omega), (by trivial), rfl, rfl, rfl⟩
 ·have e : p.take i = p := List.take_of_length_le (by omega)
  repeat' (first | (show z3 ..; first | (refine Qr rfl ?_; try intro _ hK; try simp only [go_sem, *])) | (show Hold ..; first | refine Qh rfl ?_ | refine q6 rfl mixed (by kernel_rfl) ?_ | (refine z7 rfl ⟨_, rfl, fun hb => ?_, fun hb => ?_⟩ <;> (have hc := hb; try simp only [go_sem] at hc)) | refine z8 rfl ?_) | (refine Qb ?_ ?_; focus kernel_rfl) | ((with_reducible refine And.intro ?_ ?_); focus omega) | (refine z6 hK ?_; clear hK; simp only [go_sem, *]) | (simp only [z5, z4, go_sem, *]))
  refine ⟨[.agg [.own 2 1 0 i]], [], [2], ⟨by simp only [x9, go_sem], trivial⟩, ?_⟩
  simp only [go_sem, *]
  simp
  omega
end Go.Abs

namespace Go.Abs
open Go Go.Proofs Tryz
attribute [local irreducible] z3 Hold q7
noncomputable def zAp : Code := sub [0, 1, 0, 1, 1, 1, 1] (E3 Tryz.f100)
noncomputable def i5 (fn : FuncId) : LoopK := ⟨fn, #[19], zAA zAp, zAB zAp, 26⟩
theorem zIM (fn : FuncId) (p : zLI) (t : Truth) (acc : List Truth) (h : acc.length ≤ 1000) :
  E0 prog [t.enc p] [.loopo (i5 fn) [(7, .ptr 1 0)] (some none), .box [.own 2 3 0 acc.length], .row 3 (acc.map (Truth.enc p))] (bV true)
   [.loopo (i5 fn) [(7, .ptr 1 0)] (some none), .box [.own 3 3 0 (acc ++ [t]).length], .dead, .row 3 ((acc ++ [t]).map (Truth.enc p))] := by
 refine zIN (L := i5 fn) (env := [(7, .ptr 1 0)]) (j := none) rfl rfl (fun E l hE => ?_)
 refine zCA rfl ?_
 simp only [i5, X8, go_sem]
 repeat' (first | (show z3 ..; first | (refine Qr (ops := _ :: _) rfl ?_; try intro _ hK; try simp only [go_sem, *]) | (refine Qi rfl rfl rfl rfl (fun hb _ hK => ?_) (fun hb => ?_) <;> (have hc := hb; try simp only [go_sem] at hc; simp only [go_sem, *]))) | (refine Qb ?_ ?_; focus kernel_rfl) | ((with_reducible refine And.intro ?_ ?_); focus omega) | (refine z6 hK ?_; clear hK; simp only [go_sem, *]) | (simp only [z5, z4, go_sem, *]))
 refine zAH ?_
 refine ⟨by simp only [go_sem], ?_⟩
 refine zGI (id := 1) rfl ?_
 refine zCA rfl ?_
 simp only [go_sem]
 repeat' (first | (show z3 ..; first | (refine Qr (ops := _ :: _) rfl ?_; try intro _ hK; try simp only [go_sem, *]) | (refine Qi rfl rfl rfl rfl (fun hb _ hK => ?_) (fun hb => ?_) <;> (have hc := hb; try simp only [go_sem] at hc; simp only [go_sem, *]))) | (refine Qb ?_ ?_; focus kernel_rfl) | ((with_reducible refine And.intro ?_ ?_); focus omega) | (refine z6 hK ?_; clear hK; simp only [go_sem, *]) | (simp only [z5, z4, go_sem, *]))
 refine zAH ?_
 refine ⟨by simp only [go_sem], rfl, [some 0, some 1, some 2, some 5], [], ?_⟩
 simp only [go_sem, *]
 simp [lkV, XpF]
end Go.Abs

namespace Go.Abs
open Go Go.Proofs Tryz
attribute [local irreducible] z3 Hold q7
abbrev J8 : AV := .fn 162 [.ptr 0 0, .ptr 1 0, .ptr 2 0]
noncomputable def C2 (fn : FuncId) (s : Story) (acc : List Truth) : List AObj :=
 [.box [.ptr 3 0], .box [.yld 4], .box [J8], o5 s, .loopo (i5 fn) [(7, .ptr 5 0)] (some none), .box [.own 6 3 0 acc.length], .row 3 (acc.map (Truth.enc s.first))]
noncomputable def C3 (fn : FuncId) (s : Story) (acc : List Truth) : List AObj :=
 [.box [.ptr 3 0], .box [.yld 4], .box [J8], o5 s, .loopo (i5 fn) [(7, .ptr 5 0)] (some none), .box [.own 7 3 0 acc.length], .dead, .row 3 (acc.map (Truth.enc s.first))]
attribute [go_sem] C2 C3
theorem zHE (fn : FuncId) (s : Story) (o0 : Told s) (t : Truth) (o : TOk s 0 t) (acc : List Truth) (ha : acc.length ≤ 1000) :
  zLJ prog 162 [t.enc s.first, .ptr 0 0, .ptr 1 0, .ptr 2 0] (C2 fn s acc) (bV true) (C3 fn s (acc ++ p4 s 0 t)) := by
 have hst := o.steps
 have hst2 : ((t.ways.length : Int) == (s.steps.length : Int)) = true := by simp; omega
 have hfl := o0.facts
 have hsrc : ∀ f, f ∈ s.facts → f.src ∈ y4 s.first := fun f hf => (o0.fact f hf).1
 have hnl : ∀ h, h ∈ y4 s.first → (t.now h).length ≤ 1000 := fun h hh => by have := o.small o0.steps hh; omega
 have sf := fun b hb => zHC s t o0.first (by omega) hsrc hnl b hb
 have sy := zIM fn s.first t acc ha
 rw [C4]
 by_cases q : Q0 s.facts t = true
 ·rw [if_pos q]
  have sf1 := sf true q
  clear sf q
  refine y3 func162 rfl (fun E hE => ?_); simp only [go_sem, ntmps162]
  repeat' (first | (show z3 ..; first | (refine Qr rfl ?_; try intro _ hK; try simp only [go_sem, *]) | (refine Qi rfl rfl rfl rfl (fun hb _ hK => ?_) (fun hb => ?_) <;> (have hc := hb; try simp only [go_sem] at hc; simp only [go_sem, *]))) | (show Hold ..; first | refine Qh rfl ?_ | refine q6 rfl mixed (by kernel_rfl) ?_) | (refine Qb ?_ ?_; focus kernel_rfl) | ((with_reducible refine And.intro ?_ ?_); focus omega) | (refine z6 hK ?_; clear hK; simp only [go_sem, *]) | (simp only [z5, z4, go_sem, *]))
  refine z7 rfl ⟨true, by simp only [go_sem, *], fun _ => ?_, fun e => by cases e⟩
  refine P4 rfl ?_
  refine zGc 7 rfl rfl rfl ?_
  simp only [List.take_succ_cons, List.take_zero, List.drop_succ_cons, List.drop_zero]
  repeat' (first | (show z3 ..; first | (refine Qr (ops := _ :: _) rfl ?_; try intro _ hK; try simp only [go_sem, *]) | (refine Qi rfl rfl rfl rfl (fun hb _ hK => ?_) (fun hb => ?_) <;> (have hc := hb; try simp only [go_sem] at hc; simp only [go_sem, *]))) | (refine Qb ?_ ?_; focus kernel_rfl) | ((with_reducible refine And.intro ?_ ?_); focus omega) | (refine z6 hK ?_; clear hK; simp only [go_sem, *]) | (simp only [z5, z4, go_sem, *]))
  refine x8 [3] [] sf1 (by simp) (by simp only [go_sem]) (by simp only [go_sem]) (by simp) (.inl rfl) (by simp [go_sem]) (by simp [go_sem]) ?_
  simp only [go_sem]
  repeat' (first | (show z3 ..; first | (refine Qr (ops := _ :: _) rfl ?_; try intro _ hK; try simp only [go_sem, *]) | (refine Qi rfl rfl rfl rfl (fun hb _ hK => ?_) (fun hb => ?_) <;> (have hc := hb; try simp only [go_sem] at hc; simp only [go_sem, *]))) | (refine Qb ?_ ?_; focus kernel_rfl) | ((with_reducible refine And.intro ?_ ?_); focus omega) | (refine z6 hK ?_; clear hK; simp only [go_sem, *]) | (simp only [z5, z4, go_sem, *]))
  refine zAH ?_
  refine zEi rfl rfl (by simp only [go_sem]) ?_
  refine ⟨by simp only [go_sem], ?_⟩
  simp only [go_sem]
  refine zIK [4, 5, 6] [] sy rfl rfl (by simp) (by simp only [go_sem]) ?_ (by simp) (.inl rfl) (by simp [go_sem]) (by simp [go_sem]) ?_
  ·simp only [go_sem]
  simp only [go_sem]
  repeat' (first | (show z3 ..; first | (refine Qr rfl ?_; try intro _ hK; try simp only [go_sem, *]) | (refine Qi rfl rfl rfl rfl (fun hb _ hK => ?_) (fun hb => ?_) <;> (have hc := hb; try simp only [go_sem] at hc; simp only [go_sem, *]))) | (show Hold ..; first | refine Qh rfl ?_ | refine q6 rfl mixed (by kernel_rfl) ?_ | (refine z7 rfl ⟨_, rfl, fun hb => ?_, fun hb => ?_⟩ <;> (have hc := hb; try simp only [go_sem] at hc)) | refine z8 rfl ?_) | (refine Qb ?_ ?_; focus kernel_rfl) | ((with_reducible refine And.intro ?_ ?_); focus omega) | (refine z6 hK ?_; clear hK; simp only [go_sem, *]) | (simp only [z5, z4, go_sem, *]))
  refine ⟨[_], [some 0, some 1, some 2, some 3, some 4, some 5, some 6, some 8], [], ⟨rfl, trivial⟩, ?_⟩
  simp only [go_sem, *]
 ·rw [if_neg q, List.append_nil]
  rw [Bool.not_eq_true] at q
  have sf1 := sf false q
  clear sf q
  refine y3 func162 rfl (fun E hE => ?_); simp only [go_sem, ntmps162]
  repeat' (first | (show z3 ..; first | (refine Qr rfl ?_; try intro _ hK; try simp only [go_sem, *]) | (refine Qi rfl rfl rfl rfl (fun hb _ hK => ?_) (fun hb => ?_) <;> (have hc := hb; try simp only [go_sem] at hc; simp only [go_sem, *]))) | (show Hold ..; first | refine Qh rfl ?_ | refine q6 rfl mixed (by kernel_rfl) ?_ | (refine z7 rfl ⟨_, rfl, fun hb => ?_, fun hb => ?_⟩ <;> (have hc := hb; try simp only [go_sem] at hc)) | refine z8 rfl ?_) | (refine Qb ?_ ?_; focus kernel_rfl) | ((with_reducible refine And.intro ?_ ?_); focus omega) | (refine z6 hK ?_; clear hK; simp only [go_sem, *]) | (simp only [z5, z4, go_sem, *]))
  all_goals try contradiction
  refine x8 [3] [] sf1 (by simp) (by simp only [go_sem]) (by simp only [go_sem]) (by simp) (.inl rfl) (by simp [go_sem]) (by simp [go_sem]) ?_
  simp only [go_sem]
  repeat' (first | (show z3 ..; first | (refine Qr rfl ?_; try intro _ hK; try simp only [go_sem, *]) | (refine Qi rfl rfl rfl rfl (fun hb _ hK => ?_) (fun hb => ?_) <;> (have hc := hb; try simp only [go_sem] at hc; simp only [go_sem, *]))) | (show Hold ..; first | refine Qh rfl ?_ | refine q6 rfl mixed (by kernel_rfl) ?_ | (refine z7 rfl ⟨_, rfl, fun hb => ?_, fun hb => ?_⟩ <;> (have hc := hb; try simp only [go_sem] at hc)) | refine z8 rfl ?_) | (refine Qb ?_ ?_; focus kernel_rfl) | ((with_reducible refine And.intro ?_ ?_); focus omega) | (refine z6 hK ?_; clear hK; simp only [go_sem, *]) | (simp only [z5, z4, go_sem, *]))
  refine ⟨[_], [some 0, some 1, some 2, some 3, some 4, some 5, some 6, some 6], [], ⟨rfl, trivial⟩, ?_⟩
  simp only [go_sem, *]
theorem zCT (fn : FuncId) (s : Story) (o0 : Told s) : ∀ (n : Nat) (t : Truth), TOk s n t → ∀ acc : List Truth, acc.length + (p4 s n t).length ≤ 1000 →
  zLJ prog 162 [t.enc s.first, .ptr 0 0, .ptr 1 0, .ptr 2 0] (C2 fn s acc) (bV true) (C3 fn s (acc ++ p4 s n t))
 | 0, t, o, acc, ha => zHE fn s o0 t o acc (by omega)
 | n + 1, t, o, acc, ha => by
  have IH := zCT fn s o0 n
  have hst := o.steps
  have hst2 : ((t.ways.length : Int) == (s.steps.length : Int)) = false := by simp; omega
  have hkl : t.ways.length < s.steps.length := by omega
  have hw3 := (o0.ways _ (w6 hkl)).2.1
  have h3 := o0.steps
  have v0 := o0.first
  rw [zEh] at ha ⊢
  obtain ⟨w, hw⟩ : ∃ w, w = s.steps.getD t.ways.length default := ⟨_, rfl⟩
  have hwa : s7 s t.ways.length = w := hw.symm
  rw [← hw] at hw3
  obtain ⟨tot, htot⟩ : ∃ tot, tot = acc ++ l7 s n t 0 := ⟨_, rfl⟩
  rw [← htot]
  have hac0 : acc ++ l7 s n t 0 = tot := htot.symm
  have htl : tot.length ≤ 1000 := by rw [htot, List.length_append]; omega
  clear htot ha
  have hcl := zGj t.ways (by omega)
  have hca : r5 prog 162 = true := by kernel_rfl
  refine y3 func162 rfl (fun E hE => ?_); simp only [go_sem, ntmps162]
  repeat' (first | (show z3 ..; first | (refine Qr rfl ?_; try intro _ hK; try simp only [go_sem, *]) | (refine Qi rfl rfl rfl rfl (fun hb _ hK => ?_) (fun hb => ?_) <;> (have hc := hb; try simp only [go_sem] at hc; simp only [go_sem, *]))) | (show Hold ..; first | refine Qh rfl ?_ | refine q6 rfl mixed (by kernel_rfl) ?_ | (refine z7 rfl ⟨_, rfl, fun hb => ?_, fun hb => ?_⟩ <;> (have hc := hb; try simp only [go_sem] at hc)) | refine z8 rfl ?_) | (refine Qb ?_ ?_; focus kernel_rfl) | ((with_reducible refine And.intro ?_ ?_); focus omega) | (refine z6 hK ?_; clear hK; simp only [go_sem, *]) | (simp only [z5, z4, go_sem, *]))
  all_goals try contradiction
  rw [← hw]
  refine y8 rfl (fun zn zN zenv zAs => ∃ (i : Nat) (ac : List Truth), zn = (w.length) - i ∧ i ≤ (w.length) ∧ (ac ++ l7 s n t i = tot) ∧ zN = 79 ∧ zenv = [(41, iV i), (40, iV w.length), (39, .list (w.map Change.enc)), (4, .ptr 7 0), (1, .ptr 0 0), (2, .ptr 1 0), (3, .ptr 2 0)] ∧ zAs = [.box [.ptr 3 0], .box [.yld 4], .box [J8], o5 s, .loopo (i5 fn) [(7, .ptr 5 0)] (some none), .box [.own 8 3 0 ac.length], .dead, .box [.list (t.ways.map iV), .list (t.fin.map y6), .fmap (w5 s.first) (w4 s.first t.now)], .row 3 (ac.map (Truth.enc s.first))]) (w.length) ⟨[some 0, some 1, some 2, some 3, some 4, some 5, some 6, some 7, some 6], [], _, _, _, (by (simp only [Weak, go_sem, List.map_append, List.map_set, *] <;> (try simp (disch := omega) only [q9]) <;> (try simp) <;> (try omega))), 0, acc, (by simp), (by simp), (by exact hac0), rfl, rfl, rfl⟩ ?_; rintro _ _ _ _ ⟨i, ac, rfl, hi, hP, rfl, rfl, rfl⟩
  clear hac0 hw
  by_cases hi2 : i < w.length
  ·obtain ⟨s1, s2⟩ := zAO t.fin (w.getD i default) o.val
   by_cases hcan : can t.fin (w.getD i default) = 0
   ·rw [zEg (by rw [hwa]; exact hi2) (by rw [hwa]; exact hcan), hwa] at hP
    have se := s2 hcan
    have f := Fit.of_can hcan
    have o2 := o.next hcan i
    have hal := congrArg List.length hP
    simp only [List.length_append] at hal
    have sg := IH (j7 t (w.getD i default) i) o2 ac (by omega)
    clear s1 s2 IH
    have sa := zAM t.fin (w.getD i default) o.val f
    rw [o.town] at sa
    have sth := zHg (y4 s.first) (y4 t.fin) t.now (mv t.fin (w.getD i default)) v0.nodup v0.wf o.val.wf o.mem (fun h hh => o.flat_nodup f hh) (fun h hh => by have := o.small2 h3 f hh; omega)
     (by have := v0.count; omega) (fun h hh => by have := o.small h3 hh; omega) (fun x _ => by have := A6 f x; omega)
    repeat' (first | (show z3 ..; first | (refine Qr rfl ?_; try intro _ hK; try simp only [go_sem, *]) | (refine Qi rfl rfl rfl rfl (fun hb _ hK => ?_) (fun hb => ?_) <;> (have hc := hb; try simp only [go_sem] at hc; simp only [go_sem, *]))) | (show Hold ..; first | refine Qh rfl ?_ | (refine z7 rfl ⟨_, rfl, fun hb => ?_, fun hb => ?_⟩ <;> (have hc := hb; try simp only [go_sem] at hc)) | refine z8 rfl ?_) | (refine Qb ?_ ?_; focus kernel_rfl) | (show q7 ..; first | (refine v5 (se) ?_ ?_ ?_ ?_; (focus (simp only [go_sem, *]; done)); (focus (first | (simp; done) | (simp [go_sem]; done))); (focus (first | (simp; done) | (simp [go_sem]; done))); simp only [go_sem, *])) | ((with_reducible refine And.intro ?_ ?_); focus omega) | (refine z6 hK ?_; clear hK; simp only [go_sem, *]) | (simp only [z5, z4, go_sem, *]))
    all_goals try contradiction
    generalize w.getD i default = c at *
    refine J9 (N := 79) (env := [(9, .fmap (w5 t.fin) (w4 t.fin (mv t.fin c))), (7, iV i), (41, iV i), (40, iV w.length), (39, .list (w.map Change.enc)), (4, .ptr 7 0), (1, .ptr 0 0), (2, .ptr 1 0), (3, .ptr 2 0)])
     (As := [.box [.ptr 3 0], .box [.yld 4], .box [J8], o5 s, .loopo (i5 fn) [(7, .ptr 5 0)] (some none), .box [.own 8 3 0 ac.length], .dead, .box [.list (t.ways.map iV), .list (t.fin.map y6), .fmap (w5 s.first) (w4 s.first t.now)], .row 3 (ac.map (Truth.enc s.first))])
     [some 0, some 1, some 2, some 3, some 4, some 5, some 6, some 7, some 8] [10] (by (simp only [Weak, go_sem, List.map_append, List.map_set, *] <;> (try simp (disch := omega) only [q9]) <;> (try simp) <;> (try omega))) ?_
    simp only [go_sem]
    repeat' (first | (show z3 ..; first | (refine Qr rfl ?_; try intro _ hK; try simp only [go_sem, *]) | (refine Qi rfl rfl rfl rfl (fun hb _ hK => ?_) (fun hb => ?_) <;> (have hc := hb; try simp only [go_sem] at hc; simp only [go_sem, *]))) | (show Hold ..; first | refine Qh rfl ?_ | refine q6 rfl mixed (by kernel_rfl) ?_ | (refine z7 rfl ⟨_, rfl, fun hb => ?_, fun hb => ?_⟩ <;> (have hc := hb; try simp only [go_sem] at hc)) | refine z8 rfl ?_) | (refine Qb ?_ ?_; focus kernel_rfl) | (show q7 ..; first | ((first | refine q8 (sa) ?_ ?_ | refine q8 (sth) ?_ ?_); (focus (simp only [go_sem, *]; done)); simp only [go_sem, *]) | (refine v5 (hcl) ?_ ?_ ?_ ?_; (focus (simp only [go_sem, *]; done)); (focus (first | (simp; done) | (simp [go_sem]; done))); (focus (first | (simp; done) | (simp [go_sem]; done))); simp only [go_sem, *])) | ((with_reducible refine And.intro ?_ ?_); focus omega) | (refine z6 hK ?_; clear hK; simp only [go_sem, *]) | (simp only [z5, z4, go_sem, *]))
    refine zAv [0, 1, 2, 3, 4, 5, 8] [11] sg rfl (by simp only [go_sem, Nat.le_refl]) (by simp) ?_ ?_ (by simp [go_sem]) (by simp [go_sem]) ?_
    ·simp only [go_sem, *, Nat.le_refl]
     exact ⟨by simp [j7, List.take_of_length_le], rfl, rfl⟩
    ·simp only [go_sem, *]
    simp only [go_sem, w9, *]
    repeat' (first | (show z3 ..; first | (refine Qr rfl ?_; try intro _ hK; try simp only [go_sem, *]) | (refine Qi rfl rfl rfl rfl (fun hb _ hK => ?_) (fun hb => ?_) <;> (have hc := hb; try simp only [go_sem] at hc; simp only [go_sem, *]))) | (show Hold ..; first | refine Qh rfl ?_ | refine q6 rfl mixed (by kernel_rfl) ?_ | (refine z7 rfl ⟨_, rfl, fun hb => ?_, fun hb => ?_⟩ <;> (have hc := hb; try simp only [go_sem] at hc)) | refine z8 rfl ?_) | (refine Qb ?_ ?_; focus kernel_rfl) | ((with_reducible refine And.intro ?_ ?_); focus omega) | (refine z6 hK ?_; clear hK; simp only [go_sem, *]) | (simp only [z5, z4, go_sem, *]))
    all_goals try contradiction
    refine ⟨_, (by omega), [some 0, some 1, some 2, some 3, some 4, some 5, some 6, some 7, some 12], [], _, _, _, (by (simp only [Weak, go_sem, List.map_append, List.map_set, *] <;> (try simp (disch := omega) only [q9]) <;> (try simp) <;> (try omega))), i + 1, ac ++ p4 s n (j7 t c i), rfl, (by omega), (by rw [← hP]; simp), rfl, rfl, rfl⟩
   ·rw [zEf (by rw [hwa]; exact hi2) (by rw [hwa]; exact hcan)] at hP
    have se := s1 hcan
    have hcb : (can t.fin (w.getD i default) == 0) = false := by simpa using hcan
    clear s1 s2 IH
    repeat' (first | (show z3 ..; first | (refine Qr rfl ?_; try intro _ hK; try simp only [go_sem, *]) | (refine Qi rfl rfl rfl rfl (fun hb _ hK => ?_) (fun hb => ?_) <;> (have hc := hb; try simp only [go_sem] at hc; simp only [go_sem, *]))) | (show Hold ..; first | refine Qh rfl ?_ | (refine z7 rfl ⟨_, rfl, fun hb => ?_, fun hb => ?_⟩ <;> (have hc := hb; try simp only [go_sem] at hc)) | refine z8 rfl ?_) | (refine Qb ?_ ?_; focus kernel_rfl) | (show q7 ..; first | (refine q8 (se) ?_ ?_; (focus (simp only [go_sem, *]; done)); simp only [go_sem, *])) | ((with_reducible refine And.intro ?_ ?_); focus omega) | (refine z6 hK ?_; clear hK; simp only [go_sem, *]) | (simp only [z5, z4, go_sem, *]))
    all_goals try contradiction
    refine ⟨_, (by omega), [some 0, some 1, some 2, some 3, some 4, some 5, some 6, some 7, some 8], [], _, _, _, (by (simp only [Weak, go_sem, List.map_append, List.map_set, *] <;> (try simp (disch := omega) only [q9]) <;> (try simp) <;> (try omega))), i + 1, ac, rfl, (by omega), (by exact hP), rfl, rfl, rfl⟩
  ·rw [zEe (by rw [hwa]; omega), List.append_nil] at hP
   subst hP
   repeat' (first | (show z3 ..; first | (refine Qr rfl ?_; try intro _ hK; try simp only [go_sem, *]) | (refine Qi rfl rfl rfl rfl (fun hb _ hK => ?_) (fun hb => ?_) <;> (have hc := hb; try simp only [go_sem] at hc; simp only [go_sem, *]))) | (show Hold ..; first | refine Qh rfl ?_ | refine q6 rfl mixed (by kernel_rfl) ?_ | (refine z7 rfl ⟨_, rfl, fun hb => ?_, fun hb => ?_⟩ <;> (have hc := hb; try simp only [go_sem] at hc)) | refine z8 rfl ?_) | (refine Qb ?_ ?_; focus kernel_rfl) | ((with_reducible refine And.intro ?_ ?_); focus omega) | (refine z6 hK ?_; clear hK; simp only [go_sem, *]) | (simp only [z5, z4, go_sem, *]))
   refine ⟨[_], [some 0, some 1, some 2, some 3, some 4, some 5, some 6, some 8], [], ⟨rfl, trivial⟩, ?_⟩
   simp only [go_sem, *]
end Go.Abs

namespace Go.Abs
open Go Go.Proofs Tryz
attribute [local irreducible] z3 Hold q7
theorem zHj (fn : FuncId) (s : Story) (o : Told s) :
  zLJ prog 161 [.yld 2, .ptr 0 0] [.box [.ptr 1 0], o5 s, .loopo (i5 fn) [(7, .ptr 3 0)] (some none), .box [.own 4 3 0 0], .row 3 []] (.tup [])
   [.box [.ptr 1 0], o5 s, .loopo (i5 fn) [(7, .ptr 3 0)] (some none), .box [.own 5 3 0 (t8 s).length], .dead, .row 3 ((t8 s).map (Truth.enc s.first))] := by
 have v := o.first
 have hl := K3 o.steps (fun w hw => (o.ways w hw).2.1)
 have sg := zCT fn s o s.steps.length (Y9 s) (zBA v) [] (by unfold t8 at hl; simp only [List.length_nil]; omega)
 rw [List.nil_append] at sg
 have hca : r5 prog 162 = true := by kernel_rfl
 have sc := zG7 s.first v
 have ss := W2 s.first v
 have ht : p4 s s.steps.length (Y9 s) = t8 s := rfl
 rw [ht] at sg
 generalize t8 s = l at *
 clear ht
 refine y3 func161 rfl (fun E hE => ?_); simp only [go_sem, ntmps161]
 repeat' (first | (show z3 ..; first | (refine Qr rfl ?_; try intro _ hK; try simp only [go_sem, *])) | (show Hold ..; first | refine Qh rfl ?_ | refine q6 rfl mixed (by kernel_rfl) ?_ | (refine z7 rfl ⟨_, rfl, fun hb => ?_, fun hb => ?_⟩ <;> (have hc := hb; try simp only [go_sem] at hc)) | refine z8 rfl ?_) | (refine Qb ?_ ?_; focus kernel_rfl) | (show q7 ..; first | (refine q8 (sc) ?_ ?_; (focus (simp only [go_sem, *]; done)); simp only [go_sem, *]) | (refine v5 (ss) ?_ ?_ ?_ ?_; (focus (simp only [go_sem, *]; done)); (focus (first | (simp; done) | (simp [go_sem]; done))); (focus (first | (simp; done) | (simp [go_sem]; done))); simp only [go_sem, *])) | ((with_reducible refine And.intro ?_ ?_); focus omega) | (refine z6 hK ?_; clear hK; simp only [go_sem, *]) | (simp only [z5, z4, go_sem, *]))
 refine zAv [0, 5, 6, 1, 2, 3, 4] [7] sg rfl (by simp only [go_sem]) (by simp) ?_ ?_ (by simp [go_sem]) (by simp [go_sem]) ?_
 ·simp only [go_sem, *]
  exact ⟨rfl, rfl, rfl⟩
 ·simp only [go_sem, *]
 simp only [go_sem, w9, *]
 repeat' (first | (show z3 ..; first | (refine Qr rfl ?_; try intro _ hK; try simp only [go_sem, *])) | (show Hold ..; first | refine Qh rfl ?_ | refine q6 rfl mixed (by kernel_rfl) ?_ | (refine z7 rfl ⟨_, rfl, fun hb => ?_, fun hb => ?_⟩ <;> (have hc := hb; try simp only [go_sem] at hc)) | refine z8 rfl ?_) | (refine Qb ?_ ?_; focus kernel_rfl) | ((with_reducible refine And.intro ?_ ?_); focus omega) | (refine z6 hK ?_; clear hK; simp only [go_sem, *]) | (simp only [z5, z4, go_sem, *]))
 refine ⟨[], [some 0, some 1, some 2, some 3, some 4, some 8], [], trivial, ?_⟩
 simp only [go_sem, *]
theorem zHi (s : Story) : zLJ prog 139 [.ptr 0 0] [o5 s] (.fn 161 [.ptr 1 0]) [o5 s, .box [.ptr 0 0]] := by
 refine y3 func139 rfl (fun E hE => ?_); simp only [go_sem, ntmps139]
 repeat' (first | (show z3 ..; first | (refine Qr rfl ?_; try intro _ hK; try simp only [go_sem, *])) | (show Hold ..; first | refine Qh rfl ?_ | (refine z7 rfl ⟨_, rfl, fun hb => ?_, fun hb => ?_⟩ <;> (have hc := hb; try simp only [go_sem] at hc)) | refine z8 rfl ?_) | ((with_reducible refine And.intro ?_ ?_); focus omega) | (refine z6 hK ?_; clear hK; simp only [go_sem, *]) | (simp only [z5, z4, go_sem, *]))
 refine ⟨[_], [some 0, some 1], [], ⟨rfl, trivial⟩, ?_⟩
 simp only [go_sem, *]
theorem zK5 (s : Story) (hst : s.steps.length ≤ 4294967296) (hwl : ∀ w, w ∈ s.steps → w.length ≤ 4294967296) (hfl : s.facts.length ≤ 4294967296) (hpl : s.first.length ≤ 4294967296) (h : r4 s ≠ 0) :
  zLJ prog 100 [s.enc] [] (.tup [zML, .list [], iV (r4 s)]) [] := by
 have sb := zCQ s hst hwl hfl hpl (.tup [zML, iV (r4 s)]) [] (r4 s) rfl ⟨fun e => absurd e h, fun _ => ⟨rfl, rfl⟩⟩
 have hne : (r4 s != 0) = true := by simpa using h
 refine y3 func100 rfl (fun E hE => ?_); simp only [go_sem, ntmps100]
 repeat' (first | (show z3 ..; first | (refine Qr rfl ?_; try intro _ hK; try simp only [go_sem, *])) | (show Hold ..; first | refine Qh rfl ?_ | refine q6 rfl mixed (by kernel_rfl) ?_ | (refine z7 rfl ⟨_, rfl, fun hb => ?_, fun hb => ?_⟩ <;> (have hc := hb; try simp only [go_sem] at hc)) | refine z8 rfl ?_) | (refine Qb ?_ ?_; focus kernel_rfl) | (show q7 ..; first | (refine q8 (sb) ?_ ?_; (focus (simp only [go_sem, *]; done)); simp only [go_sem, *])) | ((with_reducible refine And.intro ?_ ?_); focus omega) | (refine z6 hK ?_; clear hK; simp only [go_sem, *]) | (simp only [z5, z4, go_sem, *]))
 all_goals try contradiction
 (refine ⟨[_, _, _], [], [], ⟨rfl, rfl, rfl, trivial⟩, ?_⟩; simp only [go_sem, *])
theorem zAN (s : Story) (h : r4 s = 0) :
  zLJ prog 100 [s.enc] [] (.tup [.ptr 0 0, .list ((t8 s).map (Truth.enc s.first)), iV 0]) [o5 s] := by
 have o := F1 h
 have hl := K3 o.steps (fun w hw => (o.ways w hw).2.1)
 have sb := zCQ s (by have := o.steps; omega) (fun w hw => by have := (o.ways w hw).2.1; omega) (by have := o.facts; omega) (by have := o.first.len; omega) (.tup [.ptr 0 0, iV 0]) [o5 s] (r4 s) rfl ⟨fun _ => ⟨rfl, rfl⟩, fun e => absurd h e⟩
 have st := zHi s
 have s1 := fun fn => zHj fn s o
 generalize t8 s = l at *
 refine y3 func100 rfl (fun E hE => ?_); simp only [go_sem, ntmps100]
 repeat' (first | (show z3 ..; first | (refine Qr rfl ?_; try intro _ hK; try simp only [go_sem, *])) | (show Hold ..; first | refine Qh rfl ?_ | (refine z7 rfl ⟨_, rfl, fun hb => ?_, fun hb => ?_⟩ <;> (have hc := hb; try simp only [go_sem] at hc)) | refine z8 rfl ?_) | (refine Qb ?_ ?_; focus kernel_rfl) | (show q7 ..; first | (refine v5 (sb) ?_ ?_ ?_ ?_; (focus (simp only [go_sem, *]; done)); (focus (first | (simp; done) | (simp [go_sem]; done))); (focus (first | (simp; done) | (simp [go_sem]; done))); simp only [go_sem, *])) | ((with_reducible refine And.intro ?_ ?_); focus omega) | (refine z6 hK ?_; clear hK; simp only [go_sem, *]) | (simp only [z5, z4, go_sem, *]))
 all_goals try contradiction
 refine x8 [1] [] st (by simp) (by simp only [go_sem]) (by simp only [go_sem]) (by simp) (.inl rfl) (by simp [go_sem]) (by simp [go_sem]) ?_
 simp only [go_sem]
 repeat' (first | (show z3 ..; first | (refine Qr rfl ?_; try intro _ hK; try simp only [go_sem, *])) | (show Hold ..; first | refine Qh rfl ?_ | (refine z7 rfl ⟨_, rfl, fun hb => ?_, fun hb => ?_⟩ <;> (have hc := hb; try simp only [go_sem] at hc)) | refine z8 rfl ?_) | (refine Qb ?_ ?_; focus kernel_rfl) | ((with_reducible refine And.intro ?_ ?_); focus omega) | (refine z6 hK ?_; clear hK; simp only [go_sem, *]) | (simp only [z5, z4, go_sem, *]))
 refine J9 (N := 26) (env := [(18, .fn 161 [.ptr 1 0]), (7, .ptr 2 0), (5, .ptr 0 0)]) (As := [o5 s, .box [.ptr 0 0], .box [.own 3 3 0 0], .row 3 []]) [some 1, some 3, some 2, none] [] (by (simp only [Weak, go_sem, List.map_append, List.map_set, *] <;> (try simp (disch := omega) only [q9]) <;> (try simp) <;> (try omega))) ?_
 refine zGZ (f := 161) (caps := [.ptr 1 0]) rfl (by simp only [go_sem]) (by kernel_rfl) (nx := 4) (by simp only [go_sem]) (fun fn => ⟨5, ?_⟩)
 refine x8 [1, 0, 4, 2, 3] [] (s1 fn) (by simp) (by simp only [go_sem]) ?_ (by simp) (.inl rfl) (by simp [go_sem]) (by simp [go_sem]) ?_
 ·simp only [go_sem, *]
  rfl
 ·simp only [go_sem, *]
  refine ⟨i5 fn, [(7, .ptr 2 0)], none, by simp only [go_sem], ?_⟩
  simp only [go_sem]
  repeat' (first | (show z3 ..; first | (refine Qr rfl ?_; try intro _ hK; try simp only [go_sem, *])) | (show Hold ..; first | refine Qh rfl ?_ | refine q6 rfl mixed (by kernel_rfl) ?_ | (refine z7 rfl ⟨_, rfl, fun hb => ?_, fun hb => ?_⟩ <;> (have hc := hb; try simp only [go_sem] at hc)) | refine z8 rfl ?_) | (refine Qb ?_ ?_; focus kernel_rfl) | ((with_reducible refine And.intro ?_ ?_); focus omega) | (refine z6 hK ?_; clear hK; simp only [go_sem, *]) | (simp only [z5, z4, go_sem, *]))
  refine ⟨[_, _, _], [some 0], [5], ⟨rfl, rfl, rfl, trivial⟩, ?_⟩
  simp only [go_sem, *]
  simp [List.take_of_length_le]
end Go.Abs

namespace Go.Abs
open Go Go.Proofs Tryz
attribute [local irreducible] z3 Hold q7
attribute [go_sem] Nat.le_refl
section
variable {H : Nat → AObj} {m : List (Option Nat)} {ex : List Nat} {α : Type}
@[go_sem, simp] theorem zIj (f : α → List AV) (l : List α) (i : Nat) (ys zs : List AV) : XpL H m ex (List.take i (List.map (fun t => AV.list (f t)) l) ++ [AV.list ys]) (List.take i (List.map (fun t => AV.list (f t)) l) ++ [AV.list zs]) ↔ ys = zs := by
 rw [O5 _ (fun z hz => by
  obtain ⟨t, _, rfl⟩ := List.mem_map.1 (List.mem_of_mem_take hz)
  simp only [XpF])]
 simp only [XpF]
@[go_sem, simp] theorem zIg (f : α → List AV) (l : List α) (ys zs : List AV) : XpL H m ex (List.map (fun t => AV.list (f t)) l ++ [AV.list ys]) (List.map (fun t => AV.list (f t)) l ++ [AV.list zs]) ↔ ys = zs := by
 rw [O5 _ (fun z hz => by
  obtain ⟨t, _, rfl⟩ := List.mem_map.1 hz
  simp only [XpF])]
 simp only [XpF]
end
theorem zG1 (s : Story) (h : r4 s = 0) : zLJ prog 39 [s.enc] [] (.tup [.list ((F3 s).map l6), iV 0]) [] := by
 have o := F1 h
 have hl := K3 o.steps (fun w hw => (o.ways w hw).2.1)
 have sa := zAN s h
 unfold F3
 generalize t8 s = l at *
 refine y3 func39 rfl (fun E hE => ?_); simp only [go_sem, ntmps39]
 repeat' (first | (show z3 ..; first | (refine Qr rfl ?_; try intro _ hK; try simp only [go_sem, *])) | (show Hold ..; first | refine Qh rfl ?_ | (refine z7 rfl ⟨_, rfl, fun hb => ?_, fun hb => ?_⟩ <;> (have hc := hb; try simp only [go_sem] at hc)) | refine z8 rfl ?_) | (show q7 ..; first | (refine v5 (sa) ?_ ?_ ?_ ?_; (focus (simp only [go_sem, *]; done)); (focus (first | (simp; done) | (simp [go_sem]; done))); (focus (first | (simp; done) | (simp [go_sem]; done))); simp only [go_sem, *])) | ((with_reducible refine And.intro ?_ ?_); focus omega) | (refine z6 hK ?_; clear hK; simp only [go_sem, *]) | (simp only [z5, z4, go_sem, *]))
 all_goals try contradiction
 refine y8 rfl (fun zn zN zenv zAs => ∃ (i : Nat), zn = (l.length) - i ∧ i ≤ (l.length) ∧ (NoP i) ∧ zN = 32 ∧ zenv = [(21, iV i), (20, iV l.length), (19, .list (l.map (Truth.enc s.first))), (7, .own 0 1 0 i)] ∧ zAs = [.box ((l.take i).map fun t => l6 t.ways)]) (l.length) ⟨[none], [], _, _, _, (by (simp only [Weak, go_sem, List.map_append, List.map_set, *] <;> (try simp (disch := omega) only [q9]) <;> (try simp) <;> (try omega))), 0, (by simp), (by simp), (by trivial), rfl, rfl, rfl⟩ ?_; rintro _ _ _ _ ⟨i, rfl, hi, hP, rfl, rfl, rfl⟩
 by_cases hi2 : i < l.length
 ·have e := j0 (l := l) (i := i) hi2
  repeat' (first | (show z3 ..; first | (refine Qr rfl ?_; try intro _ hK; try simp only [go_sem, *])) | (show Hold ..; first | refine Qh rfl ?_ | (refine z7 rfl ⟨_, rfl, fun hb => ?_, fun hb => ?_⟩ <;> (have hc := hb; try simp only [go_sem] at hc)) | refine z8 rfl ?_) | ((with_reducible refine And.intro ?_ ?_); focus omega) | (refine z6 hK ?_; clear hK; simp only [go_sem, *]) | (simp only [z5, z4, go_sem, *]))
  refine ⟨_, (by omega), [some 3], [], _, _, _, (by (simp only [Weak, go_sem, List.map_append, List.map_set, *] <;> (try simp (disch := omega) only [q9]) <;> (try simp) <;> (try omega))), i + 1, rfl, (by omega), (by trivial), rfl, rfl, rfl⟩
 ·have e : l.take i = l := List.take_of_length_le (by omega)
  repeat' (first | (show z3 ..; first | (refine Qr rfl ?_; try intro _ hK; try simp only [go_sem, *])) | (show Hold ..; first | refine Qh rfl ?_ | (refine z7 rfl ⟨_, rfl, fun hb => ?_, fun hb => ?_⟩ <;> (have hc := hb; try simp only [go_sem] at hc)) | refine z8 rfl ?_) | ((with_reducible refine And.intro ?_ ?_); focus omega) | (refine z6 hK ?_; clear hK; simp only [go_sem, *]) | (simp only [z5, z4, go_sem, *]))
  refine ⟨[_, _], [], [0], ⟨rfl, rfl, trivial⟩, ?_⟩
  simp only [go_sem, *]
  exact ⟨by omega, fun x hx => by obtain ⟨_, _, rfl⟩ := List.mem_map.1 hx; rfl, .inl (by simp [Function.comp_def])⟩
theorem zG2 (s : Story) (h : House) (he : O0 s h = 0) (hn : (T2 s h).Nodup) (h12 : (T2 s h).length ≤ 12) :
  zLJ prog 58 [s.enc, h.enc] [] (.tup [.list ((zAY s h).map House.enc), iV 0]) [] := by
 have hs : r4 s = 0 := by
  unfold O0 at he
  split at he <;> assumption
 have hh : h ∈ y4 s.first := by
  unfold O0 at he
  rw [if_pos hs] at he
  by_cases q : h ∈ y4 s.first
  ·exact q
  ·rw [if_neg q] at he; omega
 have hne : t8 s ≠ [] := by
  unfold O0 at he
  rw [if_pos hs, if_pos hh] at he
  intro e
  rw [if_pos e] at he; omega
 have o := F1 hs
 have hl := K3 o.steps (fun w hw => (o.ways w hw).2.1)
 have ht := zCs o.first
 have sa := zAN s hs
 have sc := zAJ (y4 s.first) h (by have := o.first.count; omega)
 have e0 : decide (h ∈ y4 s.first) = true := by simpa using hh
 rw [e0] at sc
 have ss := zCY (T2 s h) hn h12
 have hw := o.first.wf
 have hwf := hw _ hh
 have h3 := o.steps
 have hsm : ∀ t, t ∈ t8 s → (t.now h).length ≤ 8 := fun t hm => (ht t hm).small h3 hh
 unfold zAY
 have hwl : ([] : List House) ++ ((t8 s).drop 0).flatMap (fun t => t.now h) = T2 s h := rfl
 generalize T2 s h = W at *
 generalize t8 s = l at *
 have hl0 : ((l.length : Int) == 0) = false := by
  have : 0 < l.length := List.length_pos_iff.2 hne
  simp; omega
 clear he e0 ht hne
 refine y3 func58 rfl (fun E hE => ?_); simp only [go_sem, ntmps58]
 repeat' (first | (show z3 ..; first | (refine Qr rfl ?_; try intro _ hK; try simp only [go_sem, *])) | (show Hold ..; first | refine Qh rfl ?_ | refine q6 rfl mixed (by kernel_rfl) ?_ | (refine z7 rfl ⟨_, rfl, fun hb => ?_, fun hb => ?_⟩ <;> (have hc := hb; try simp only [go_sem] at hc)) | refine z8 rfl ?_) | (refine Qb ?_ ?_; focus kernel_rfl) | (show q7 ..; first | (refine v5 (sa) ?_ ?_ ?_ ?_; (focus (simp only [go_sem, *]; done)); (focus (first | (simp; done) | (simp [go_sem]; done))); (focus (first | (simp; done) | (simp [go_sem]; done))); simp only [go_sem, *]) | (refine q8 (sc) ?_ ?_; (focus (simp only [go_sem, *]; done)); simp only [go_sem, *])) | ((with_reducible refine And.intro ?_ ?_); focus omega) | (refine z6 hK ?_; clear hK; simp only [go_sem, *]) | (simp only [z5, z4, go_sem, *]))
 all_goals try contradiction
 refine y8 rfl (fun zn zN zenv zAs => ∃ (i : Nat) (acc : List House), zn = (l.length) - i ∧ i ≤ (l.length) ∧ (acc ++ (l.drop i).flatMap (fun t => t.now h) = W) ∧ zN = 46 ∧ zenv = [(33, iV i), (32, iV l.length), (31, .list (l.map (Truth.enc s.first))), (9, .own 1 3 0 acc.length), (3, .ptr 0 0)] ∧ zAs = [.box [iV h.street, iV h.plate.number, iV h.plate.letter], .row 3 (acc.map House.enc)]) (l.length) ⟨[some 1, none], [], _, _, _, (by (simp only [Weak, go_sem, List.map_append, List.map_set, *] <;> (try simp (disch := omega) only [q9]) <;> (try simp) <;> (try omega))), 0, [], (by simp), (by simp), (by exact hwl), rfl, rfl, rfl⟩ ?_; rintro _ _ _ _ ⟨i, acc, rfl, hi, hP, rfl, rfl, rfl⟩
 clear hwl
 have hql := congrArg List.length hP
 simp only [List.length_append] at hql
 by_cases hi2 : i < l.length
 ·have hti := hsm _ (w6 hi2)
  rw [v3 hi2, List.flatMap_cons] at hP
  repeat' (first | (show z3 ..; first | (refine Qr rfl ?_; try intro _ hK; try simp only [go_sem, *])) | (show Hold ..; first | refine Qh rfl ?_ | refine q6 rfl mixed (by kernel_rfl) ?_ | (refine z7 rfl ⟨_, rfl, fun hb => ?_, fun hb => ?_⟩ <;> (have hc := hb; try simp only [go_sem] at hc)) | refine z8 rfl ?_) | (refine Qb ?_ ?_; focus kernel_rfl) | ((with_reducible refine And.intro ?_ ?_); focus omega) | (refine z6 hK ?_; clear hK; simp only [go_sem, *]) | (simp only [z5, z4, go_sem, *]))
  refine X5 (h := h) (hs := y4 s.first) (F := zLN (l.getD i default).now) hw hwf ?_
  rw [if_pos hh, zLN]
  repeat' (first | (show z3 ..; first | (refine Qr rfl ?_; try intro _ hK; try simp only [go_sem, *])) | (show Hold ..; first | refine Qh rfl ?_ | refine q6 rfl mixed (by kernel_rfl) ?_ | (refine z7 rfl ⟨_, rfl, fun hb => ?_, fun hb => ?_⟩ <;> (have hc := hb; try simp only [go_sem] at hc)) | refine z8 rfl ?_) | (refine Qb ?_ ?_; focus kernel_rfl) | ((with_reducible refine And.intro ?_ ?_); focus omega) | (refine z6 hK ?_; clear hK; simp only [go_sem, *]) | (simp only [z5, z4, go_sem, *]))
  refine ⟨fun y hy => ?_, fun y hy => ?_, by omega, ?_⟩
  ·obtain ⟨z, _, rfl⟩ := List.mem_map.1 hy
   simp [go_sem]
  ·obtain ⟨z, _, rfl⟩ := List.mem_map.1 hy
   simp [go_sem]
  ·repeat' (first | (show z3 ..; first | (refine Qr rfl ?_; try intro _ hK; try simp only [go_sem, *])) | (show Hold ..; first | refine Qh rfl ?_ | refine q6 rfl mixed (by kernel_rfl) ?_ | (refine z7 rfl ⟨_, rfl, fun hb => ?_, fun hb => ?_⟩ <;> (have hc := hb; try simp only [go_sem] at hc)) | refine z8 rfl ?_) | (refine Qb ?_ ?_; focus kernel_rfl) | ((with_reducible refine And.intro ?_ ?_); focus omega) | (refine z6 hK ?_; clear hK; simp only [go_sem, *]) | (simp only [z5, z4, go_sem, *]))
   refine ⟨_, (by omega), [some 0, some 3], [], _, _, _, (by (simp only [Weak, go_sem, List.map_append, List.map_set, *] <;> (try simp (disch := omega) only [q9]) <;> (try simp) <;> (try omega))), i + 1, acc ++ (l.getD i default).now h, rfl, (by omega), (by rw [← hP]; simp), rfl, rfl, rfl⟩
 ·rw [v4 (by omega), List.flatMap_nil, List.append_nil] at hP
  subst hP
  clear hql
  repeat' (first | (show z3 ..; first | (refine Qr rfl ?_; try intro _ hK; try simp only [go_sem, *])) | (show Hold ..; first | refine Qh rfl ?_ | refine q6 rfl mixed (by kernel_rfl) ?_ | (refine z7 rfl ⟨_, rfl, fun hb => ?_, fun hb => ?_⟩ <;> (have hc := hb; try simp only [go_sem] at hc)) | refine z8 rfl ?_) | (refine Qb ?_ ?_; focus kernel_rfl) | ((with_reducible refine And.intro ?_ ?_); focus omega) | (refine z6 hK ?_; clear hK; simp only [go_sem, *]) | (simp only [z5, z4, go_sem, *]))
  (refine r6 (ss) (by simp only [go_sem, *]; done) rfl (by simp only [go_sem]; done) (by simp) (by simp) ?_; simp only [go_sem, w9, *])
  repeat' (first | (show z3 ..; first | (refine Qr rfl ?_; try intro _ hK; try simp only [go_sem, *])) | (show Hold ..; first | refine Qh rfl ?_ | refine q6 rfl mixed (by kernel_rfl) ?_ | (refine z7 rfl ⟨_, rfl, fun hb => ?_, fun hb => ?_⟩ <;> (have hc := hb; try simp only [go_sem] at hc)) | refine z8 rfl ?_) | (refine Qb ?_ ?_; focus kernel_rfl) | ((with_reducible refine And.intro ?_ ?_); focus omega) | (refine z6 hK ?_; clear hK; simp only [go_sem, *]) | (simp only [z5, z4, go_sem, *]))
  (refine ⟨[_, _], [], [], ⟨rfl, rfl, trivial⟩, ?_⟩; simp only [go_sem, *])
  trace_state
def zMA : Option (House × Nat) → AV → Prop
 | some (h, n), R => R = .tup [h.enc, iV n, iV 0]
 | none, R => R = .tup [(⟨0, ⟨0, 0⟩⟩ : House).enc, iV 0, iV 11]
theorem zGi (s : Story) (h : r4 s = 0) (R : AV) (hR : zMA (K6 s) R) :
  zLJ prog 46 [s.enc] [] R [] := by
 have o := F1 h
 have v := o.first
 have hct := v.count
 have h3 := o.steps
 have hl := K3 h3 (fun w hw => (o.ways w hw).2.1)
 have ht := zCs v
 have sa := zAN s h
 have hsm : ∀ t, t ∈ t8 s → ∀ x, x ∈ y4 s.first → (t.now x).length ≤ 1000 := fun t hm x hx => by have := (ht t hm).small h3 hx; omega
 unfold K6 V3 at hR
 generalize t8 s = l at *
 clear ht
 have hgs : ∀ x, x ∈ (y4 s.first).map (p9 l) → x ≤ 1000 := fun x hx => by
  obtain ⟨y, _, rfl⟩ := List.mem_map.1 hx
  have := zBK l y; omega
 have sl := zHO ((y4 s.first).map (p9 l)) (by simp; omega) hgs
 refine y3 func46 rfl (fun E hE => ?_); simp only [go_sem, ntmps46]
 repeat' (first | (show z3 ..; first | (refine Qr rfl ?_; try intro _ hK; try simp only [go_sem, *]) | (refine Qi rfl rfl rfl rfl (fun hb _ hK => ?_) (fun hb => ?_) <;> (have hc := hb; try simp only [go_sem] at hc; simp only [go_sem, *]))) | (show Hold ..; first | refine Qh rfl ?_ | refine q6 rfl mixed (by kernel_rfl) ?_ | (refine z7 rfl ⟨_, rfl, fun hb => ?_, fun hb => ?_⟩ <;> (have hc := hb; try simp only [go_sem] at hc)) | refine z8 rfl ?_) | (refine Qb ?_ ?_; focus kernel_rfl) | (show q7 ..; first | (refine v5 (sa) ?_ ?_ ?_ ?_; (focus (simp only [go_sem, *]; done)); (focus (first | (simp; done) | (simp [go_sem]; done))); (focus (first | (simp; done) | (simp [go_sem]; done))); simp only [go_sem, *])) | ((with_reducible refine And.intro ?_ ?_); focus omega) | (refine z6 hK ?_; clear hK; simp only [go_sem, *]) | (simp only [z5, z4, go_sem, *]))
 all_goals try contradiction
 refine y8 rfl (fun zn zN zenv zAs => ∃ (i : Nat), zn = ((y4 s.first).length) - i ∧ i ≤ ((y4 s.first).length) ∧ (NoP i) ∧ zN = 67 ∧ zenv = [(26, iV i), (25, iV (y4 s.first).length), (24, .list ((y4 s.first).map House.enc)), (7, .own 2 1 0 i), (6, .list (l.map (Truth.enc s.first))), (5, .ptr 1 0), (2, .ptr 0 0)] ∧ zAs = [.box [iV 0, iV 0, iV 0], o5 s, .row 1 (((y4 s.first).take i).map fun x => iV (p9 l x : Nat))]) ((y4 s.first).length) ⟨[some 1, some 2, none], [], _, _, _, (by (simp only [Weak, go_sem, List.map_append, List.map_set, *] <;> (try simp (disch := omega) only [q9]) <;> (try simp) <;> (try omega))), 0, (by simp), (by simp), (by trivial), rfl, rfl, rfl⟩ ?_; rintro _ _ _ _ ⟨i, rfl, hi, hP, rfl, rfl, rfl⟩
 by_cases hi2 : i < (y4 s.first).length
 ·have e := j0 (l := y4 s.first) (i := i) hi2
  have hm := w6 hi2
  have sg := zHD s.first l ((y4 s.first).getD i default) v hm (by omega) (fun t ht => hsm t ht _ hm)
  repeat' (first | (show z3 ..; first | (refine Qr rfl ?_; try intro _ hK; try simp only [go_sem, *]) | (refine Qi rfl rfl rfl rfl (fun hb _ hK => ?_) (fun hb => ?_) <;> (have hc := hb; try simp only [go_sem] at hc; simp only [go_sem, *]))) | (show Hold ..; first | refine Qh rfl ?_ | refine q6 rfl mixed (by kernel_rfl) ?_ | (refine z7 rfl ⟨_, rfl, fun hb => ?_, fun hb => ?_⟩ <;> (have hc := hb; try simp only [go_sem] at hc)) | refine z8 rfl ?_) | (refine Qb ?_ ?_; focus kernel_rfl) | (show q7 ..; first | (refine q8 (sg) ?_ ?_; (focus (simp only [go_sem, *]; done)); simp only [go_sem, *])) | ((with_reducible refine And.intro ?_ ?_); focus omega) | (refine z6 hK ?_; clear hK; simp only [go_sem, *]) | (simp only [z5, z4, go_sem, *]))
  refine ⟨_, (by omega), [some 0, some 1, some 5], [], _, _, _, (by (simp only [Weak, go_sem, List.map_append, List.map_set, *] <;> (try simp (disch := omega) only [q9]) <;> (try simp) <;> (try omega))), i + 1, rfl, (by omega), (by trivial), rfl, rfl, rfl⟩
 ·have e : (y4 s.first).take i = y4 s.first := List.take_of_length_le (by omega)
  have e2 : (y4 s.first).length ≤ i := by omega
  have hlr := zFU (g := (y4 s.first).map (p9 l))
  obtain ⟨a, ha⟩ : ∃ a, a = i9 ((y4 s.first).map (p9 l)) := ⟨_, rfl⟩
  have hneg : (y4 s.first).length = 0 → a < 0 := fun h => by
   rw [ha, List.eq_nil_of_length_eq_zero h]; show i9 [] < 0; decide
  rw [← ha] at sl hlr hR
  simp only [List.length_map] at hlr
  clear ha
  repeat' (first | (show z3 ..; first | (refine Qr rfl ?_; try intro _ hK; try simp only [go_sem, *]) | (refine Qi rfl rfl rfl rfl (fun hb _ hK => ?_) (fun hb => ?_) <;> (have hc := hb; try simp only [go_sem] at hc; simp only [go_sem, *]))) | (show Hold ..; first | refine Qh rfl ?_ | refine q6 rfl mixed (by kernel_rfl) ?_ | (refine z7 rfl ⟨_, rfl, fun hb => ?_, fun hb => ?_⟩ <;> (have hc := hb; try simp only [go_sem] at hc)) | refine z8 rfl ?_) | (refine Qb ?_ ?_; focus kernel_rfl) | ((with_reducible refine And.intro ?_ ?_); focus omega) | (refine z6 hK ?_; clear hK; simp only [go_sem, *]) | (simp only [z5, z4, go_sem, *]))
  refine o7 [2] sl ?_ (.raw _) ?_
  ·simp only [go_sem, *]
   simp [Function.comp_def, List.take_of_length_le, e2]
  simp only [go_sem, *]
  by_cases hl0 : l.length = 0
  ·rw [if_pos (.inl hl0)] at hR
   have hl1 : ((l.length : Int) == 0) = true := by simpa using hl0
   clear hneg hlr
   have hR2 := hR
   unfold zMA at hR2
   clear hR
   subst hR2
   repeat' (first | (show z3 ..; first | (refine Qr rfl ?_; try intro _ hK; try simp only [go_sem, *]) | (refine Qi rfl rfl rfl rfl (fun hb _ hK => ?_) (fun hb => ?_) <;> (have hc := hb; try simp only [go_sem] at hc; simp only [go_sem, *]))) | (show Hold ..; first | refine Qh rfl ?_ | refine q6 rfl mixed (by kernel_rfl) ?_ | (refine z7 rfl ⟨_, rfl, fun hb => ?_, fun hb => ?_⟩ <;> (have hc := hb; try simp only [go_sem] at hc)) | refine z8 rfl ?_) | (refine Qb ?_ ?_; focus kernel_rfl) | ((with_reducible refine And.intro ?_ ?_); focus omega) | (refine z6 hK ?_; clear hK; simp only [go_sem, *]) | (simp only [z5, z4, go_sem, *]))
   refine ⟨[.agg [iV 0, iV 0, iV 0], iV 0, iV 11], [], [], ⟨(by simp only [x9, go_sem]), rfl, rfl, trivial⟩, ?_⟩; simp only [go_sem, *]
  have hl1 : ((l.length : Int) == 0) = false := by simpa using hl0
  by_cases ha0 : a < 0
  ·rw [if_pos (.inr (.inl ha0))] at hR
   clear hneg hlr
   have hR2 := hR
   unfold zMA at hR2
   clear hR
   subst hR2
   repeat' (first | (show z3 ..; first | (refine Qr rfl ?_; try intro _ hK; try simp only [go_sem, *]) | (refine Qi rfl rfl rfl rfl (fun hb _ hK => ?_) (fun hb => ?_) <;> (have hc := hb; try simp only [go_sem] at hc; simp only [go_sem, *]))) | (show Hold ..; first | refine Qh rfl ?_ | refine q6 rfl mixed (by kernel_rfl) ?_ | (refine z7 rfl ⟨_, rfl, fun hb => ?_, fun hb => ?_⟩ <;> (have hc := hb; try simp only [go_sem] at hc)) | refine z8 rfl ?_) | (refine Qb ?_ ?_; focus kernel_rfl) | ((with_reducible refine And.intro ?_ ?_); focus omega) | (refine z6 hK ?_; clear hK; simp only [go_sem, *]) | (simp only [z5, z4, go_sem, *]))
   all_goals first | contradiction | omega | skip
   refine ⟨[.agg [iV 0, iV 0, iV 0], iV 0, iV 11], [], [], ⟨(by simp only [x9, go_sem]), rfl, rfl, trivial⟩, ?_⟩; simp only [go_sem, *]
  ·obtain ⟨k, rfl⟩ : ∃ k : Nat, a = (k : Int) := ⟨a.toNat, by omega⟩
   have hk : k < (y4 s.first).length := by
    have : 0 < (y4 s.first).length := by
     rcases Nat.eq_zero_or_pos (y4 s.first).length with h | h
     ·exact absurd (hneg h) ha0
     ·exact h
    have := hlr this
    omega
   have hgk : ((y4 s.first).map (p9 l)).getD (k : Int).toNat 0 = p9 l ((y4 s.first).getD k default) := by
    simp [List.getD, hk]
   rw [hgk] at hR
   clear hneg hlr hgk
   have hki : k < i := by omega
   by_cases hg : p9 l ((y4 s.first).getD k default) = l.length
   ·rw [if_pos (.inr (.inr hg))] at hR
    have hgi : (((p9 l ((y4 s.first).getD k default) : Nat) : Int) == (l.length : Int)) = true := by rw [beq_iff_eq]; omega
    clear hg
    have hR2 := hR
    unfold zMA at hR2
    clear hR
    subst hR2
    repeat' (first | (show z3 ..; first | (refine Qr rfl ?_; try intro _ hK; try simp only [go_sem, *]) | (refine Qi rfl rfl rfl rfl (fun hb _ hK => ?_) (fun hb => ?_) <;> (have hc := hb; try simp only [go_sem] at hc; simp only [go_sem, *]))) | (show Hold ..; first | refine Qh rfl ?_ | refine q6 rfl mixed (by kernel_rfl) ?_ | (refine z7 rfl ⟨_, rfl, fun hb => ?_, fun hb => ?_⟩ <;> (have hc := hb; try simp only [go_sem] at hc)) | refine z8 rfl ?_) | (refine Qb ?_ ?_; focus kernel_rfl) | ((with_reducible refine And.intro ?_ ?_); focus omega) | (refine z6 hK ?_; clear hK; simp only [go_sem, *]) | (simp only [z5, z4, go_sem, *]))
    all_goals first | contradiction | omega | skip
    refine ⟨[.agg [iV 0, iV 0, iV 0], iV 0, iV 11], [], [], ⟨(by simp only [x9, go_sem]), rfl, rfl, trivial⟩, ?_⟩; simp only [go_sem, *]
   ·rw [if_neg (by rintro (h | h | h) <;> omega)] at hR
    have hgi : (((p9 l ((y4 s.first).getD k default) : Nat) : Int) == (l.length : Int)) = false := by rw [beq_eq_false_iff_ne]; omega
    clear hg
    have hR2 := hR
    unfold zMA at hR2
    clear hR
    simp only [Int.toNat_natCast] at hR2
    subst hR2
    repeat' (first | (show z3 ..; first | (refine Qr rfl ?_; try intro _ hK; try simp only [go_sem, *]) | (refine Qi rfl rfl rfl rfl (fun hb _ hK => ?_) (fun hb => ?_) <;> (have hc := hb; try simp only [go_sem] at hc; simp only [go_sem, *]))) | (show Hold ..; first | refine Qh rfl ?_ | refine q6 rfl mixed (by kernel_rfl) ?_ | (refine z7 rfl ⟨_, rfl, fun hb => ?_, fun hb => ?_⟩ <;> (have hc := hb; try simp only [go_sem] at hc)) | refine z8 rfl ?_) | (refine Qb ?_ ?_; focus kernel_rfl) | ((with_reducible refine And.intro ?_ ?_); focus omega) | (refine z6 hK ?_; clear hK; simp only [go_sem, *]) | (simp only [z5, z4, go_sem, *]))
    all_goals first | contradiction | omega | skip
    refine ⟨[((y4 s.first).getD k default).enc, iV (p9 l ((y4 s.first).getD k default) : Nat), iV 0], [], [], ⟨(by simp only [x9, go_sem]), rfl, rfl, trivial⟩, ?_⟩; simp only [go_sem, *]
end Go.Abs

namespace Go.Abs
open Go Go.Proofs Tryz
attribute [local irreducible] z3 Hold q7
theorem zC0 : i7 townX H3 = 0 := by kernel_rfl
theorem zK8 : zLJ prog 20 [] [] (bV true) [] := by
 have sAfter := zGf townX X2 (by decide)
 rw [if_pos zCz, zIF, zCz] at sAfter
 have sTruths := zG1 taleX zAe
 rw [zC1] at sTruths
 have sWhere := zG2 taleX (atX 0 1) zIJ (by rw [zC2]; decide) (by rw [zC2]; decide)
 rw [zII] at sWhere
 have sAsk := zGi taleX zAe (.tup [(atX 0 1).enc, iV (1 : Nat), iV 0]) (by rw [zIG]; rfl)
 have sGuess := zGv townX H3 (by decide) (by decide)
 rw [if_pos zC0, zIH, zC0] at sGuess
 have sRow1 := F0 [1, 2, 4, 5, 7, 8] (by decide)
 have sRow2 := F0 [1, 2, 3, 4, 5, 7, 8] (by decide)
 have sPlan1 := zAR (zLe [1, 2, 4, 5, 7, 8]) [] []
 have sPlan2 := zAR (zLe [1, 2, 3, 4, 5, 7, 8]) [] []
 have sEq1 := zGr H2 H2 (by decide) (by decide)
 have sEq2 := zGp [[0, 0], [1, 0]] [[0, 0], [1, 0]] (by decide) (by decide)
 have sEq3 := zGq [atX 0 2, atX 0 5] [atX 0 2, atX 0 5] (by decide)
 have sEq4 := zGn [X2, J3] [X2, J3] (by decide)
 have sJoin := zCV 1 0
 have sAt1 := zAP 0 1
 have sAt2 := zAP 0 2
 have sAt5 := zAP 0 5
 have sOne := zHR 6 0 3
 simp only [H2, H3, X2, J3, zeroPlate, atX, decide_true, zL3, Option.getD_some] at *
 refine y3 func20 rfl (fun E hE => ?_); simp only [go_sem, ntmps20]
 repeat' (first | (show z3 ..; first | (refine Qr rfl ?_; try intro _ hK; try simp only [go_sem, *]) | (refine Qi rfl rfl rfl rfl (fun hb _ hK => ?_) (fun hb => ?_) <;> (have hc := hb; try simp only [go_sem] at hc; simp only [go_sem, *]))) | (show Hold ..; first | refine Qh rfl ?_ | (refine z7 rfl ⟨_, rfl, fun hb => ?_, fun hb => ?_⟩ <;> (have hc := hb; try simp only [go_sem] at hc)) | refine z8 rfl ?_) | (refine Qb ?_ ?_; focus kernel_rfl) | (show q7 ..; first | ((first | refine q8 (zCZ) ?_ ?_ | refine q8 (sJoin) ?_ ?_ | refine q8 (sAfter) ?_ ?_ | refine q8 (sTruths) ?_ ?_ | refine q8 (sAt1) ?_ ?_ | refine q8 (sWhere) ?_ ?_ | refine q8 (sAsk) ?_ ?_); (focus (simp only [go_sem, *]; done)); simp only [go_sem, *]) | (refine r6 (zHf) ?_ rfl ?_ ?_ ?_ ?_; (focus (simp only [go_sem, *]; done)); (focus (simp only [go_sem, *]; done)); (focus (first | (simp; done) | (simp [go_sem]; done))); (focus (first | (simp; done) | (simp [go_sem]; done))); simp only [go_sem, w9, *]) | (refine r6 (sRow1) ?_ rfl ?_ ?_ ?_ ?_; (focus (simp only [go_sem, *]; done)); (focus (simp only [go_sem, *]; done)); (focus (first | (simp; done) | (simp [go_sem]; done))); (focus (first | (simp; done) | (simp [go_sem]; done))); simp only [go_sem, w9, *]) | (refine r6 (sPlan1) ?_ rfl ?_ ?_ ?_ ?_; (focus (simp only [go_sem, *]; done)); (focus (simp only [go_sem, *]; done)); (focus (first | (simp; done) | (simp [go_sem]; done))); (focus (first | (simp; done) | (simp [go_sem]; done))); simp only [go_sem, w9, *]) | (refine r6 (sGuess) ?_ rfl ?_ ?_ ?_ ?_; (focus (simp only [go_sem, *]; done)); (focus (simp only [go_sem, *]; done)); (focus (first | (simp; done) | (simp [go_sem]; done))); (focus (first | (simp; done) | (simp [go_sem]; done))); simp only [go_sem, w9, *])) | ((with_reducible refine And.intro ?_ ?_); focus omega) | (refine z6 hK ?_; clear hK; simp only [go_sem, *]) | (simp only [z5, z4, go_sem, *]))
 all_goals try contradiction
 repeat' (first | (show z3 ..; first | (refine Qr rfl ?_; try intro _ hK; try simp only [go_sem, *]) | (refine Qi rfl rfl rfl rfl (fun hb _ hK => ?_) (fun hb => ?_) <;> (have hc := hb; try simp only [go_sem] at hc; simp only [go_sem, *]))) | (show Hold ..; first | refine Qh rfl ?_ | refine q6 rfl mixed (by kernel_rfl) ?_ | (refine z7 rfl ⟨_, rfl, fun hb => ?_, fun hb => ?_⟩ <;> (have hc := hb; try simp only [go_sem] at hc)) | refine z8 rfl ?_) | (refine Qb ?_ ?_; focus kernel_rfl) | (show q7 ..; first | ((first | refine q8 (sJoin) ?_ ?_ | refine q8 (sOne) ?_ ?_ | refine q8 (sAt1) ?_ ?_ | refine q8 (sAt2) ?_ ?_ | refine q8 (sAt5) ?_ ?_); (focus (simp only [go_sem, *]; done)); simp only [go_sem, *]) | (refine r6 (sRow2) ?_ rfl ?_ ?_ ?_ ?_; (focus (simp only [go_sem, *]; done)); (focus (simp only [go_sem, *]; done)); (focus (first | (simp; done) | (simp [go_sem]; done))); (focus (first | (simp; done) | (simp [go_sem]; done))); simp only [go_sem, w9, *]) | (refine r6 (sPlan2) ?_ rfl ?_ ?_ ?_ ?_; (focus (simp only [go_sem, *]; done)); (focus (simp only [go_sem, *]; done)); (focus (first | (simp; done) | (simp [go_sem]; done))); (focus (first | (simp; done) | (simp [go_sem]; done))); simp only [go_sem, w9, *]) | (refine r6 (sEq1) ?_ rfl ?_ ?_ ?_ ?_; (focus (simp only [go_sem, *]; done)); (focus (simp only [go_sem, *]; done)); (focus (first | (simp; done) | (simp [go_sem]; done))); (focus (first | (simp; done) | (simp [go_sem]; done))); simp only [go_sem, w9, *]) | (refine r6 (sEq2) ?_ rfl ?_ ?_ ?_ ?_; (focus (simp only [go_sem, *]; done)); (focus (simp only [go_sem, *]; done)); (focus (first | (simp; done) | (simp [go_sem]; done))); (focus (first | (simp; done) | (simp [go_sem]; done))); simp only [go_sem, w9, *]) | (refine r6 (sEq3) ?_ rfl ?_ ?_ ?_ ?_; (focus (simp only [go_sem, *]; done)); (focus (simp only [go_sem, *]; done)); (focus (first | (simp; done) | (simp [go_sem]; done))); (focus (first | (simp; done) | (simp [go_sem]; done))); simp only [go_sem, w9, *]) | (refine r6 (sEq4) ?_ rfl ?_ ?_ ?_ ?_; (focus (simp only [go_sem, *]; done)); (focus (simp only [go_sem, *]; done)); (focus (first | (simp; done) | (simp [go_sem]; done))); (focus (first | (simp; done) | (simp [go_sem]; done))); simp only [go_sem, w9, *])) | ((with_reducible refine And.intro ?_ ?_); focus omega) | (refine z6 hK ?_; clear hK; simp only [go_sem, *]) | (simp only [z5, z4, go_sem, *]))
 (refine ⟨[_], [], [], ⟨rfl, trivial⟩, ?_⟩; simp only [go_sem, *])
end Go.Abs

namespace Go.Abs
open Go Go.Proofs Tryz
attribute [local irreducible] z3 Hold q7
def O1 (p : zLI) : Bool := p.any fun l => decide (20 < l.length)
def zCx (p : zLI) : Bool := decide (20 < p.length) || O1 p
theorem zIA {p : zLI} {i : Nat} (h : i < p.length) : O1 (p.drop i) = (decide (20 < (p.getD i default).length) || O1 (p.drop (i + 1))) := by
 unfold O1; rw [v3 h, List.any_cons]
theorem zK9 (p : zLI) (h1 : p.length ≤ 4294967296) (W : Bool) (hW : zCx p = W) : zLJ prog 19 [y5 p] [] (bV W) [] := by
 unfold zCx at hW
 by_cases q : 20 < p.length
 ·have q2 : (p.length : Int) > 20 := by omega
  have e : decide (20 < p.length) = true := by simpa using q
  rw [e, Bool.true_or] at hW
  subst hW
  clear e q
  refine y3 func19 rfl (fun E hE => ?_); simp only [go_sem, ntmps19]
  repeat' (first | (show z3 ..; first | (refine Qr rfl ?_; try intro _ hK; try simp only [go_sem, *])) | (show Hold ..; first | refine Qh rfl ?_ | (refine z7 rfl ⟨_, rfl, fun hb => ?_, fun hb => ?_⟩ <;> (have hc := hb; try simp only [go_sem] at hc)) | refine z8 rfl ?_) | ((with_reducible refine And.intro ?_ ?_); focus omega) | (refine z6 hK ?_; clear hK; simp only [go_sem, *]) | (simp only [z5, z4, go_sem, *]))
  all_goals first | contradiction | omega | skip
  (refine ⟨[_], [], [], ⟨rfl, trivial⟩, ?_⟩; simp only [go_sem, *])
 ·have q2 : ¬ (p.length : Int) > 20 := by omega
  have e : decide (20 < p.length) = false := by simpa using q
  rw [e, Bool.false_or] at hW
  have hW0 : O1 (p.drop 0) = W := hW
  clear e hW
  refine y3 func19 rfl (fun E hE => ?_); simp only [go_sem, ntmps19]
  repeat' (first | (show z3 ..; first | (refine Qr rfl ?_; try intro _ hK; try simp only [go_sem, *])) | (show Hold ..; first | refine Qh rfl ?_ | (refine z7 rfl ⟨_, rfl, fun hb => ?_, fun hb => ?_⟩ <;> (have hc := hb; try simp only [go_sem] at hc)) | refine z8 rfl ?_) | ((with_reducible refine And.intro ?_ ?_); focus omega) | (refine z6 hK ?_; clear hK; simp only [go_sem, *]) | (simp only [z5, z4, go_sem, *]))
  all_goals first | contradiction | omega | skip
  refine y8 rfl (fun zn zN zenv zAs => ∃ (i : Nat), zn = (p.length) - i ∧ i ≤ (p.length) ∧ (O1 (p.drop i) = W) ∧ zN = 22 ∧ zenv = [(3, iV i), (1, .ptr 0 0)] ∧ zAs = [zLW p]) (p.length) ⟨[some 0], [], _, _, _, (by (simp only [Weak, go_sem, List.map_append, List.map_set, *] <;> (try simp (disch := omega) only [q9]) <;> (try simp) <;> (try omega))), 0, (by simp), (by simp), (by exact hW0), rfl, rfl, rfl⟩ ?_; rintro _ _ _ _ ⟨i, rfl, hi, hP, rfl, rfl, rfl⟩
  by_cases hi2 : i < p.length
  ·rw [zIA hi2] at hP
   by_cases r : 20 < (p.getD i default).length
   ·have r2 : ((p.getD i default).length : Int) > 20 := by omega
    have e : decide (20 < (p.getD i default).length) = true := by simpa using r
    rw [e, Bool.true_or] at hP
    subst hP
    clear e r
    repeat' (first | (show z3 ..; first | (refine Qr rfl ?_; try intro _ hK; try simp only [go_sem, *])) | (show Hold ..; first | refine Qh rfl ?_ | (refine z7 rfl ⟨_, rfl, fun hb => ?_, fun hb => ?_⟩ <;> (have hc := hb; try simp only [go_sem] at hc)) | refine z8 rfl ?_) | ((with_reducible refine And.intro ?_ ?_); focus omega) | (refine z6 hK ?_; clear hK; simp only [go_sem, *]) | (simp only [z5, z4, go_sem, *]))
    all_goals first | contradiction | omega | skip
    (refine ⟨[_], [], [], ⟨rfl, trivial⟩, ?_⟩; simp only [go_sem, *])
   ·have r2 : ¬ ((p.getD i default).length : Int) > 20 := by omega
    have e : decide (20 < (p.getD i default).length) = false := by simpa using r
    rw [e, Bool.false_or] at hP
    clear e r
    repeat' (first | (show z3 ..; first | (refine Qr rfl ?_; try intro _ hK; try simp only [go_sem, *])) | (show Hold ..; first | refine Qh rfl ?_ | (refine z7 rfl ⟨_, rfl, fun hb => ?_, fun hb => ?_⟩ <;> (have hc := hb; try simp only [go_sem] at hc)) | refine z8 rfl ?_) | ((with_reducible refine And.intro ?_ ?_); focus omega) | (refine z6 hK ?_; clear hK; simp only [go_sem, *]) | (simp only [z5, z4, go_sem, *]))
    all_goals first | contradiction | omega | skip
    refine ⟨_, (by omega), [some 0], [], _, _, _, (by (simp only [Weak, go_sem, List.map_append, List.map_set, *] <;> (try simp (disch := omega) only [q9]) <;> (try simp) <;> (try omega))), i + 1, rfl, (by omega), (by exact hP), rfl, rfl, rfl⟩
  ·rw [v4 (by omega)] at hP
   have hP2 : false = W := hP
   subst hP2
   repeat' (first | (show z3 ..; first | (refine Qr rfl ?_; try intro _ hK; try simp only [go_sem, *])) | (show Hold ..; first | refine Qh rfl ?_ | (refine z7 rfl ⟨_, rfl, fun hb => ?_, fun hb => ?_⟩ <;> (have hc := hb; try simp only [go_sem] at hc)) | refine z8 rfl ?_) | ((with_reducible refine And.intro ?_ ?_); focus omega) | (refine z6 hK ?_; clear hK; simp only [go_sem, *]) | (simp only [z5, z4, go_sem, *]))
   (refine ⟨[_], [], [], ⟨rfl, trivial⟩, ?_⟩; simp only [go_sem, *])
end Go.Abs

namespace Go.Abs
open Go Go.Proofs Tryz
attribute [local irreducible] z3 Hold q7
attribute [go_sem] u9 Nat.le_refl Nat.sub_zero Int.reduceGT Nat.reduceGT Int.reduceGE
@[go_sem ↓] theorem zJo (a b : Int) (K : Cont) : zL1 .xor .u64 a b K = K (uV (b7 a b)) [] [] := rfl
@[go_sem ↓] theorem zKw (a b : Int) (K : Cont) : U2 .shl .u64 a b K = (0 ≤ b ∧ K (uV (L1 a b.toNat)) [] []) := rfl
@[go_sem ↓] theorem zKx (a b : Int) (K : Cont) : U2 .shr .u64 a b K = (0 ≤ b ∧ K (uV (l4 a b.toNat)) [] []) := rfl
@[go_sem] theorem zJB (s : Int) : b7 s (L1 s 13) = zMI s := rfl
@[go_sem] theorem zJC (s : Int) : b7 s (l4 s 7) = zMJ s := rfl
@[go_sem] theorem zJD (s : Int) : b7 s (L1 s 17) = zMK s := rfl
@[go_sem] theorem zJE (s : Int) : zMK (zMJ (zMI s)) = M4 s := rfl
@[go_sem] theorem zJF (n : Int) : IntKind.u64.wrap (b7 n (l4 n 30) * 10723151780598845931) = zMC n := rfl
theorem zHa (d : Dice) (h : d.list.length ≤ 4294967296) : zLJ prog 95 [.ptr 0 0] [u9 d] (uV (zLm d)) [u9 (zLl d)] := by
 have e2 : (zLl d).list = d.list := rfl
 have e4 : (zLl d).seed = zLp d := rfl
 have e6 : zLm d = b7 (zMC (zLp d)) (l4 (zMC (zLp d)) 31) := rfl
 by_cases q : d.at_ < d.list.length
 ·have q2 : ((d.at_ : Int) < (d.list.length : Int)) := by omega
  have e1 : zLp d = IntKind.u64.wrap (M4 d.seed + IntKind.u64.wrap (IntKind.u64.wrap (d.list.getD d.at_ default) * 13787848793156543929)) := by unfold zLp; rw [if_pos q]
  have e3 : (zLl d).at_ = d.at_ + 1 := by unfold zLl; simp only; rw [if_pos q]
  have e5 : IntKind.i64.wrap ((d.at_ : Int) + 1) = ((d.at_ + 1 : Nat) : Int) := q9 (by omega)
  generalize zLl d = d' at *
  refine y3 func95 rfl (fun E hE => ?_); simp only [go_sem, ntmps95]
  repeat' (first | (show z3 ..; first | (refine Qr rfl ?_; try intro _ hK; try simp only [go_sem, *])) | (show Hold ..; first | refine Qh rfl ?_ | refine q6 rfl mixed (by kernel_rfl) ?_ | (refine z7 rfl ⟨_, rfl, fun hb => ?_, fun hb => ?_⟩ <;> (have hc := hb; try simp only [go_sem] at hc)) | refine z8 rfl ?_) | (refine Qb ?_ ?_; focus kernel_rfl) | ((with_reducible refine And.intro ?_ ?_); focus omega) | (refine z6 hK ?_; clear hK; simp only [go_sem, *]) | (simp only [z5, z4, go_sem, *]))
  all_goals first | contradiction | omega | skip
  refine ⟨[_], [some 0], [], ⟨rfl, trivial⟩, ?_⟩
  simp only [go_sem, *]
 ·have q2 : ¬ ((d.at_ : Int) < (d.list.length : Int)) := by omega
  have e1 : zLp d = M4 d.seed := by unfold zLp; rw [if_neg q]
  have e3 : (zLl d).at_ = d.at_ := by unfold zLl; simp only; rw [if_neg q]
  generalize zLl d = d' at *
  refine y3 func95 rfl (fun E hE => ?_); simp only [go_sem, ntmps95]
  repeat' (first | (show z3 ..; first | (refine Qr rfl ?_; try intro _ hK; try simp only [go_sem, *])) | (show Hold ..; first | refine Qh rfl ?_ | refine q6 rfl mixed (by kernel_rfl) ?_ | (refine z7 rfl ⟨_, rfl, fun hb => ?_, fun hb => ?_⟩ <;> (have hc := hb; try simp only [go_sem] at hc)) | refine z8 rfl ?_) | (refine Qb ?_ ?_; focus kernel_rfl) | ((with_reducible refine And.intro ?_ ?_); focus omega) | (refine z6 hK ?_; clear hK; simp only [go_sem, *]) | (simp only [z5, z4, go_sem, *]))
  all_goals first | contradiction | omega | skip
  refine ⟨[_], [some 0], [], ⟨rfl, trivial⟩, ?_⟩
  simp only [go_sem, *]
theorem p8 (n : Int) (d : Dice) : (toD n d).list = d.list := by unfold toD; split <;> rfl
theorem L5 (d : Dice) (n : Int) (h : d.list.length ≤ 4294967296) (hn : n ≤ 4294967296) : zLJ prog 30 [.ptr 0 0, iV n] [u9 d] (iV (toN n d)) [u9 (toD n d)] := by
 by_cases q : n < 1
 ·have e1 : toN n d = 0 := by unfold toN; rw [if_pos q]
  have e2 : toD n d = d := by unfold toD; rw [if_pos q]
  refine y3 func30 rfl (fun E hE => ?_); simp only [go_sem, ntmps30]
  repeat' (first | (show z3 ..; first | (refine Qr rfl ?_; try intro _ hK; try simp only [go_sem, *])) | (show Hold ..; first | refine Qh rfl ?_ | (refine z7 rfl ⟨_, rfl, fun hb => ?_, fun hb => ?_⟩ <;> (have hc := hb; try simp only [go_sem] at hc)) | refine z8 rfl ?_) | ((with_reducible refine And.intro ?_ ?_); focus omega) | (refine z6 hK ?_; clear hK; simp only [go_sem, *]) | (simp only [z5, z4, go_sem, *]))
  all_goals first | contradiction | omega | skip
  refine ⟨[_], [some 0], [], ⟨rfl, trivial⟩, ?_⟩
  simp only [go_sem, *]
 ·have e1 : toN n d = (l4 (zLm d) 16).tmod (n + 1) := by unfold toN; rw [if_neg q]
  have e2 : toD n d = zLl d := by unfold toD; rw [if_neg q]
  have hr := F2 n d
  rw [e1] at hr
  have e3 : IntKind.i64.wrap (n + 1) = n + 1 := wrap_i64 (by omega) (by omega)
  have e4 : IntKind.u64.wrap (n + 1) = n + 1 := by rw [IntKind.wrap_u64]; omega
  have e5 : IntKind.i64.wrap ((l4 (zLm d) 16).tmod (n + 1)) = (l4 (zLm d) 16).tmod (n + 1) := wrap_i64 (by omega) (by omega)
  have e6 : ¬ n + 1 = 0 := by omega
  have sr := zHa d h
  generalize zLm d = r at *
  generalize zLl d = d' at *
  clear hr
  refine y3 func30 rfl (fun E hE => ?_); simp only [go_sem, ntmps30]
  repeat' (first | (show z3 ..; first | (refine Qr rfl ?_; try intro _ hK; try simp only [go_sem, *])) | (show Hold ..; first | refine Qh rfl ?_ | (refine z7 rfl ⟨_, rfl, fun hb => ?_, fun hb => ?_⟩ <;> (have hc := hb; try simp only [go_sem] at hc)) | refine z8 rfl ?_) | (show q7 ..; first | (refine x8 [0] [] (sr) (by simp) ?_ ?_ (by simp) (.inl rfl) ?_ ?_ ?_; (focus (simp only [go_sem, *]; done)); (focus (simp only [go_sem, *]; done)); (focus (first | (simp; done) | (simp [go_sem]; done))); (focus (first | (simp; done) | (simp [go_sem]; done))); simp only [go_sem, *])) | ((with_reducible refine And.intro ?_ ?_); focus omega) | (refine z6 hK ?_; clear hK; simp only [go_sem, *]) | (simp only [z5, z4, go_sem, *]))
  all_goals first | contradiction | omega | skip
  refine ⟨[_], [some 0], [], ⟨rfl, trivial⟩, ?_⟩
  simp only [go_sem, *]
theorem W0 (d : Dice) (lo hi : Int) (h : d.list.length ≤ 4294967296) (hl : 0 ≤ lo ∧ lo ≤ hi) (hh : hi ≤ 4294967296) : zLJ prog 83 [.ptr 0 0, iV lo, iV hi] [u9 d] (iV (u1 lo hi d)) [u9 (w7 lo hi d)] := by
 have st := L5 d (hi - lo) h (by omega)
 have hf := X0 hl.2 d
 have e1 : IntKind.i64.wrap (hi - lo) = hi - lo := wrap_i64 (by omega) (by omega)
 have e2 : IntKind.i64.wrap (lo + toN (hi - lo) d) = u1 lo hi d := by
  have : lo + toN (hi - lo) d = u1 lo hi d := rfl
  rw [this]; exact wrap_i64 (by omega) (by omega)
 have e3 : w7 lo hi d = toD (hi - lo) d := rfl
 rw [e3]
 generalize u1 lo hi d = r at *
 clear e3 hf hl
 refine y3 func83 rfl (fun E hE => ?_); simp only [go_sem, ntmps83]
 repeat' (first | (show z3 ..; first | (refine Qr rfl ?_; try intro _ hK; try simp only [go_sem, *])) | (show Hold ..; first | refine Qh rfl ?_ | (refine z7 rfl ⟨_, rfl, fun hb => ?_, fun hb => ?_⟩ <;> (have hc := hb; try simp only [go_sem] at hc)) | refine z8 rfl ?_) | (show q7 ..; first | (refine x8 [0] [] (st) (by simp) ?_ ?_ (by simp) (.inl rfl) ?_ ?_ ?_; (focus (simp only [go_sem, *]; done)); (focus (simp only [go_sem, *]; done)); (focus (first | (simp; done) | (simp [go_sem]; done))); (focus (first | (simp; done) | (simp [go_sem]; done))); simp only [go_sem, *])) | ((with_reducible refine And.intro ?_ ?_); focus omega) | (refine z6 hK ?_; clear hK; simp only [go_sem, *]) | (simp only [z5, z4, go_sem, *]))
 refine ⟨[_], [some 0], [], ⟨rfl, trivial⟩, ?_⟩
 simp only [go_sem, *]
theorem zAL (d : Dice) (k : Int) (h : d.list.length ≤ 4294967296) (hk : 0 ≤ k ∧ k ≤ 4294967296) : zLJ prog 84 [.ptr 0 0, iV k] [u9 d] (bV (Z1 k d)) [u9 (u6 k d)] := by
 have st := L5 d (k - 1) h (by omega)
 have e1 : IntKind.i64.wrap (k - 1) = k - 1 := wrap_i64 (by omega) (by omega)
 have e2 : Z1 k d = (toN (k - 1) d == 0) := rfl
 have e3 : u6 k d = toD (k - 1) d := rfl
 rw [e3, e2]
 clear e2 e3 hk
 refine y3 func84 rfl (fun E hE => ?_); simp only [go_sem, ntmps84]
 repeat' (first | (show z3 ..; first | (refine Qr rfl ?_; try intro _ hK; try simp only [go_sem, *])) | (show Hold ..; first | refine Qh rfl ?_ | (refine z7 rfl ⟨_, rfl, fun hb => ?_, fun hb => ?_⟩ <;> (have hc := hb; try simp only [go_sem] at hc)) | refine z8 rfl ?_) | (show q7 ..; first | (refine x8 [0] [] (st) (by simp) ?_ ?_ (by simp) (.inl rfl) ?_ ?_ ?_; (focus (simp only [go_sem, *]; done)); (focus (simp only [go_sem, *]; done)); (focus (first | (simp; done) | (simp [go_sem]; done))); (focus (first | (simp; done) | (simp [go_sem]; done))); simp only [go_sem, *])) | ((with_reducible refine And.intro ?_ ?_); focus omega) | (refine z6 hK ?_; clear hK; simp only [go_sem, *]) | (simp only [z5, z4, go_sem, *]))
 refine ⟨[_], [some 0], [], ⟨rfl, trivial⟩, ?_⟩
 simp only [go_sem, *]
def zBy (l : List Int) : Dice := ⟨l, 0, 11400714819323198485⟩
theorem zK3 (l : List Int) : zLJ prog 21 [l6 l] [] (.ptr 0 0) [u9 (zBy l)] := by
 refine y3 func21 rfl (fun E hE => ?_); simp only [go_sem, ntmps21]
 repeat' (first | (show z3 ..; first | (refine Qr rfl ?_; try intro _ hK; try simp only [go_sem, *])) | (show Hold ..; first | refine Qh rfl ?_ | (refine z7 rfl ⟨_, rfl, fun hb => ?_, fun hb => ?_⟩ <;> (have hc := hb; try simp only [go_sem] at hc)) | refine z8 rfl ?_) | ((with_reducible refine And.intro ?_ ?_); focus omega) | (refine z6 hK ?_; clear hK; simp only [go_sem, *]) | (simp only [z5, z4, go_sem, *]))
 refine ⟨[_], [some 0], [], ⟨rfl, trivial⟩, ?_⟩
 simp only [go_sem, zBy, *]
end Go.Abs

namespace Go.Abs
open Go Go.Proofs Tryz
attribute [local irreducible] z3 Hold q7
theorem S5 (a b : Int) (d : Dice) : (w7 a b d).list = d.list := p8 _ _
theorem M7 (k : Int) (d : Dice) : (u6 k d).list = d.list := p8 _ _
theorem zB5 (d : Dice) : (Z4 d).2.list = d.list := by
 unfold Z4 P2
 split
 ·simp only [S5, M7]
 ·simp only [S5, M7]
theorem zB6 : ∀ (n : Nat) (d : Dice) (out : List Plate), (X7 n d out).2.list = d.list
 | 0, d, out => rfl
 | n + 1, d, out => by rw [X7, zB6 n]; exact zB5 d
theorem zGB (d : Dice) (m : Int) : (f8 d m).2.list = d.list := by unfold f8; rw [zB6, p8]
def PlP (most : Int) (d : Dice) (k : Nat) (dd : Dice) (acc : List Plate) (R : List Plate × Dice) : Prop := X7 k dd acc = R ∧ dd.list.length ≤ 4294967296 ∧ acc.length + k ≤ 8
theorem PlP.next {most : Int} {d dd : Dice} {k : Nat} {acc : List Plate} {R : List Plate × Dice} (h : PlP most d (k + 1) dd acc R) : PlP most d k (Z4 dd).2 (n0 (Z4 dd).1 acc) R := by
 obtain ⟨h1, h2, h3⟩ := h
 have := B1 (x := (Z4 dd).1) (l := acc)
 exact ⟨h1, by rw [zB5]; exact h2, by omega⟩
def AtP (x : Plate) (acc : List Plate) (j : Nat) : Prop := ∀ m, m < j → (acc.getD m default).lt x = true
theorem AtP.next {x : Plate} {acc : List Plate} {j : Nat} (h : AtP x acc j) (hx : (acc.getD j default).lt x = true) : AtP x acc (j + 1) := fun m hm => by
 rcases Nat.lt_succ_iff_lt_or_eq.1 hm with h1 | rfl
 ·exact h m h1
 ·exact hx
theorem zCN (d : Dice) (most : Int) (h : d.list.length ≤ 4294967296) (hm : most ≤ 8) :
  zLJ prog 85 [.ptr 0 0, iV most] [u9 d] (.list ((f8 d most).1.map Plate.enc)) [u9 (f8 d most).2] := by
 have st := L5 d most h (by omega)
 have hr := F2 most d
 obtain ⟨n, hn⟩ : ∃ n : Nat, toN most d = n := ⟨(toN most d).toNat, by omega⟩
 have h0 : PlP most d (n - 0) (toD most d) [] (f8 d most) := by
  unfold f8
  rw [hn]
  exact ⟨by simp, by rw [p8]; exact h, by simp; omega⟩
 rw [hn] at st hr
 generalize f8 d most = R at *
 obtain ⟨RL, RD⟩ := R
 clear hn
 generalize toD most d = d0 at *
 refine y3 func85 rfl (fun E hE => ?_); simp only [go_sem, ntmps85]
 repeat' (first | (show z3 ..; first | (refine Qr rfl ?_; try intro _ hK; try simp only [go_sem, *]) | (refine Qi rfl rfl rfl rfl (fun hb _ hK => ?_) (fun hb => ?_) <;> (have hc := hb; try simp only [go_sem] at hc; simp only [go_sem, *]))) | (show Hold ..; first | refine Qh rfl ?_ | refine q6 rfl mixed (by kernel_rfl) ?_ | (refine z7 rfl ⟨_, rfl, fun hb => ?_, fun hb => ?_⟩ <;> (have hc := hb; try simp only [go_sem] at hc)) | refine z8 rfl ?_) | (refine Qb ?_ ?_; focus kernel_rfl) | (show q7 ..; first | (refine x8 [0] [] (st) (by simp) ?_ ?_ (by simp) (.inl rfl) ?_ ?_ ?_; (focus (simp only [go_sem, *]; done)); (focus (simp only [go_sem, *]; done)); (focus (first | (simp; done) | (simp [go_sem]; done))); (focus (first | (simp; done) | (simp [go_sem]; done))); simp only [go_sem, *])) | ((with_reducible refine And.intro ?_ ?_); focus omega) | (refine z6 hK ?_; clear hK; simp only [go_sem, *]) | (simp only [z5, z4, go_sem, *]))
 refine y8 rfl (fun zn zN zenv zAs => ∃ (i : Nat) (dd : Dice) (acc : List Plate), zn = (n) - i ∧ i ≤ (n) ∧ (PlP most d (n - i) dd acc (RL, RD)) ∧ zN = 63 ∧ zenv = [(6, iV ((n - i : Nat) : Int)), (5, .own 1 2 0 acc.length), (0, .ptr 0 0)] ∧ zAs = [u9 dd, .row 2 (acc.map Plate.enc)]) (n) ⟨[some 0, none], [], _, _, _, (by (simp only [Weak, go_sem, List.map_append, List.map_set, *] <;> (try simp (disch := omega) only [q9]) <;> (try simp) <;> (try omega))), 0, d0, [], (by simp), (by simp), (by exact h0), rfl, rfl, rfl⟩ ?_; rintro _ _ _ _ ⟨i, dd, acc, rfl, hi, hP, rfl, rfl, rfl⟩
 clear h0 st
 by_cases hi2 : i < n
 ·obtain ⟨k, hk⟩ : ∃ k, n - i = k + 1 := ⟨n - i - 1, by omega⟩
  have hk2 : n - (i + 1) = k := by omega
  rw [hk] at hP ⊢
  have hnx := hP.next
  have hw1 : IntKind.i64.wrap (((k + 1 : Nat) : Int) - 1) = (k : Int) := by rw [wrap_i64 (by omega) (by omega)]; omega
  have hgt : ((k + 1 : Nat) : Int) > 0 := by omega
  obtain ⟨_, hdl, hal⟩ := hP
  have s1 := W0 dd 1 9 hdl (by omega) (by omega)
  have s2 := zAL (w7 1 9 dd) 4 (by rw [S5]; exact hdl) (by omega)
  have s3 := W0 (u6 4 (w7 1 9 dd)) 1 2 (by rw [M7, S5]; exact hdl) (by omega) (by omega)
  unfold Z4 at hnx
  generalize u1 1 9 dd = x1 at *
  generalize w7 1 9 dd = d1 at *
  generalize u6 4 d1 = d2 at *
  generalize u1 1 2 d2 = x2 at *
  generalize w7 1 2 d2 = d3 at *
  obtain ⟨⟨x, d'⟩, hxd⟩ : ∃ xd, xd = P2 x1 (Z1 4 d1) x2 d3 d2 := ⟨_, rfl⟩
  rw [← hxd] at hnx
  generalize Z1 4 d1 = b at *
  have hxq : b = true ∧ x = ⟨x1, x2⟩ ∧ d' = d3 ∨ b = false ∧ x = ⟨x1, 0⟩ ∧ d' = d2 := by
   unfold P2 at hxd
   cases b
   ·right; simpa using hxd
   ·left; simpa using hxd
  clear hxd
  rcases hxq with ⟨rfl, hx, hd⟩ | ⟨rfl, hx, hd⟩
  all_goals repeat' (first | (show z3 ..; first | (refine Qr rfl ?_; try intro _ hK; try simp only [go_sem, *]) | (refine Qi rfl rfl rfl rfl (fun hb _ hK => ?_) (fun hb => ?_) <;> (have hc := hb; try simp only [go_sem] at hc; simp only [go_sem, *]))) | (show Hold ..; first | refine Qh rfl ?_ | refine q6 rfl mixed (by kernel_rfl) ?_ | (refine z7 rfl ⟨_, rfl, fun hb => ?_, fun hb => ?_⟩ <;> (have hc := hb; try simp only [go_sem] at hc)) | refine z8 rfl ?_) | (refine Qb ?_ ?_; focus kernel_rfl) | (show q7 ..; first | (refine x8 [0] [] (s1) (by simp) ?_ ?_ (by simp) (.inl rfl) ?_ ?_ ?_; (focus (simp only [go_sem, *]; done)); (focus (simp only [go_sem, *]; done)); (focus (first | (simp; done) | (simp [go_sem]; done))); (focus (first | (simp; done) | (simp [go_sem]; done))); simp only [go_sem, *]) | (refine x8 [0] [] (s2) (by simp) ?_ ?_ (by simp) (.inl rfl) ?_ ?_ ?_; (focus (simp only [go_sem, *]; done)); (focus (simp only [go_sem, *]; done)); (focus (first | (simp; done) | (simp [go_sem]; done))); (focus (first | (simp; done) | (simp [go_sem]; done))); simp only [go_sem, *]) | (refine x8 [0] [] (s3) (by simp) ?_ ?_ (by simp) (.inl rfl) ?_ ?_ ?_; (focus (simp only [go_sem, *]; done)); (focus (simp only [go_sem, *]; done)); (focus (first | (simp; done) | (simp [go_sem]; done))); (focus (first | (simp; done) | (simp [go_sem]; done))); simp only [go_sem, *])) | ((with_reducible refine And.intro ?_ ?_); focus omega) | (refine z6 hK ?_; clear hK; simp only [go_sem, *]) | (simp only [z5, z4, go_sem, *]))
  all_goals try contradiction
  all_goals
   have hx1 := congrArg Plate.number hx
   have hx2 := congrArg Plate.letter hx
   simp only at hx1 hx2
   refine J9 (N := 63) (env := [(8, iV 0), (7, .ptr 2 0), (6, iV ((k + 1 : Nat) : Int)), (5, .own 1 2 0 acc.length), (0, .ptr 0 0)]) (As := [u9 d', .row 2 (acc.map Plate.enc), .box [iV x.number, iV x.letter]]) [some 0, some 1, some 2] [] (by (simp only [Weak, go_sem, List.map_append, List.map_set, *] <;> (try simp (disch := omega) only [q9]) <;> (try simp) <;> (try omega))) ?_
   clear hx hd hx1 hx2 s1 s2 s3 hm hr
   refine y8 rfl (fun zn zN zenv zAs => ∃ (j : Nat), zn = (acc.length) - j ∧ j ≤ (acc.length) ∧ (AtP x acc j) ∧ zN = 63 ∧ zenv = [(8, iV j), (7, .ptr 2 0), (6, iV ((k + 1 : Nat) : Int)), (5, .own 1 2 0 acc.length), (0, .ptr 0 0)] ∧ zAs = [u9 d', .row 2 (acc.map Plate.enc), .box [iV x.number, iV x.letter]]) (acc.length) ⟨[some 0, some 1, some 2], [], _, _, _, (by (simp only [Weak, go_sem, List.map_append, List.map_set, *] <;> (try simp (disch := omega) only [q9]) <;> (try simp) <;> (try omega))), 0, (by simp), (by simp), (by exact fun m hm => absurd hm (by omega)), rfl, rfl, rfl⟩ ?_; rintro _ _ _ _ ⟨j, rfl, hj, hJ, rfl, rfl, rfl⟩
   have hmn : min j acc.length = j := by omega
   have hl2 : j + (acc.length - j + 1) = j + 1 + (acc.length - j) := by omega
   have hdl2 : (List.drop j (List.map Plate.enc acc)).length = acc.length - j := by simp
   have htd : List.take (acc.length - j) (List.drop j (List.map Plate.enc acc)) = List.drop j (List.map Plate.enc acc) := List.take_of_length_le (by simp)
   by_cases hj2 : j < acc.length
   ·have hj3 : ((j : Int) == (acc.length : Int)) = false := by simp; omega
    have sb := zCP (acc.getD j default) x
    by_cases hlt : (acc.getD j default).lt x = true
    ·rw [hlt] at sb
     repeat' (first | (show z3 ..; first | (refine Qr rfl ?_; try intro _ hK; try simp only [go_sem, *]) | (refine Qi rfl rfl rfl rfl (fun hb _ hK => ?_) (fun hb => ?_) <;> (have hc := hb; try simp only [go_sem] at hc; simp only [go_sem, *]))) | (show Hold ..; first | refine Qh rfl ?_ | refine q6 rfl mixed (by kernel_rfl) ?_ | (refine z7 rfl ⟨_, rfl, fun hb => ?_, fun hb => ?_⟩ <;> (have hc := hb; try simp only [go_sem] at hc)) | refine z8 rfl ?_) | (with_reducible (show (∀ _ : AV, _ → _) ∧ _); refine And.intro ?_ ?_; (focus (intro y hy; first | (obtain ⟨z, _, rfl⟩ := List.mem_map.1 (hy); simp [go_sem]; done) | (obtain ⟨z, _, rfl⟩ := List.mem_map.1 (List.mem_of_mem_take hy); simp [go_sem]; done) | (obtain ⟨z, _, rfl⟩ := List.mem_map.1 (List.mem_of_mem_drop hy); simp [go_sem]; done) | (obtain ⟨z, _, rfl⟩ := List.mem_map.1 (List.mem_of_mem_drop (List.mem_of_mem_take hy)); simp [go_sem]; done)))) | (refine Qb ?_ ?_; focus kernel_rfl) | (show q7 ..; first | (refine q8 (sb) ?_ ?_; (focus (simp only [go_sem, *]; done)); simp only [go_sem, *])) | ((with_reducible refine And.intro ?_ ?_); focus omega) | (refine z6 hK ?_; clear hK; simp only [go_sem, *]) | (simp only [z5, z4, go_sem, *]))
     all_goals try contradiction
     refine ⟨_, (by omega), [some 0, some 1, some 2], [], _, _, _, (by (simp only [Weak, go_sem, List.map_append, List.map_set, *] <;> (try simp (disch := omega) only [q9]) <;> (try simp) <;> (try omega))), j + 1, rfl, (by omega), (by exact hJ.next hlt), rfl, rfl, rfl⟩
    ·rw [Bool.not_eq_true] at hlt
     rw [hlt] at sb
     have hin := B0 (by omega) hJ (fun _ => hlt)
     by_cases heq : acc.getD j default = x
     ·rw [if_pos ⟨hj2, heq⟩] at hin
      rw [hin] at hnx
      clear hin
      have hne : (decide (acc.getD j default = x)) = true := by simpa using heq
      clear heq
      repeat' (first | (show z3 ..; first | (refine Qr rfl ?_; try intro _ hK; try simp only [go_sem, *]) | (refine Qi rfl rfl rfl rfl (fun hb _ hK => ?_) (fun hb => ?_) <;> (have hc := hb; try simp only [go_sem] at hc; simp only [go_sem, *]))) | (show Hold ..; first | refine Qh rfl ?_ | refine q6 rfl mixed (by kernel_rfl) ?_ | (refine z7 rfl ⟨_, rfl, fun hb => ?_, fun hb => ?_⟩ <;> (have hc := hb; try simp only [go_sem] at hc)) | refine z8 rfl ?_) | (with_reducible (show (∀ _ : AV, _ → _) ∧ _); refine And.intro ?_ ?_; (focus (intro y hy; first | (obtain ⟨z, _, rfl⟩ := List.mem_map.1 (hy); simp [go_sem]; done) | (obtain ⟨z, _, rfl⟩ := List.mem_map.1 (List.mem_of_mem_take hy); simp [go_sem]; done) | (obtain ⟨z, _, rfl⟩ := List.mem_map.1 (List.mem_of_mem_drop hy); simp [go_sem]; done) | (obtain ⟨z, _, rfl⟩ := List.mem_map.1 (List.mem_of_mem_drop (List.mem_of_mem_take hy)); simp [go_sem]; done)))) | (refine Qb ?_ ?_; focus kernel_rfl) | (show q7 ..; first | (refine q8 (sb) ?_ ?_; (focus (simp only [go_sem, *]; done)); simp only [go_sem, *])) | ((with_reducible refine And.intro ?_ ?_); focus omega) | (refine z6 hK ?_; clear hK; simp only [go_sem, *]) | (simp only [z5, z4, go_sem, *]))
      all_goals try contradiction
      refine ⟨_, (by omega), [some 0, some 1], [], _, _, _, (by (simp only [Weak, go_sem, List.map_append, List.map_set, *] <;> (try simp (disch := omega) only [q9]) <;> (try simp) <;> (try omega))), i + 1, d', acc, rfl, (by omega), (by rw [hk2]; exact hnx), rfl, rfl, rfl⟩
     ·rw [if_neg (fun h => heq h.2)] at hin
      rw [hin] at hnx
      clear hin
      have hne : (decide (acc.getD j default = x)) = false := by simpa using heq
      clear heq
      repeat' (first | (show z3 ..; first | (refine Qr rfl ?_; try intro _ hK; try simp only [go_sem, *]) | (refine Qi rfl rfl rfl rfl (fun hb _ hK => ?_) (fun hb => ?_) <;> (have hc := hb; try simp only [go_sem] at hc; simp only [go_sem, *]))) | (show Hold ..; first | refine Qh rfl ?_ | refine q6 rfl mixed (by kernel_rfl) ?_ | (refine z7 rfl ⟨_, rfl, fun hb => ?_, fun hb => ?_⟩ <;> (have hc := hb; try simp only [go_sem] at hc)) | refine z8 rfl ?_) | (with_reducible (show (∀ _ : AV, _ → _) ∧ _); refine And.intro ?_ ?_; (focus (intro y hy; first | (obtain ⟨z, _, rfl⟩ := List.mem_map.1 (hy); simp [go_sem]; done) | (obtain ⟨z, _, rfl⟩ := List.mem_map.1 (List.mem_of_mem_take hy); simp [go_sem]; done) | (obtain ⟨z, _, rfl⟩ := List.mem_map.1 (List.mem_of_mem_drop hy); simp [go_sem]; done) | (obtain ⟨z, _, rfl⟩ := List.mem_map.1 (List.mem_of_mem_drop (List.mem_of_mem_take hy)); simp [go_sem]; done)))) | (refine Qb ?_ ?_; focus kernel_rfl) | (show q7 ..; first | (refine q8 (sb) ?_ ?_; (focus (simp only [go_sem, *]; done)); simp only [go_sem, *])) | ((with_reducible refine And.intro ?_ ?_); focus omega) | (refine z6 hK ?_; clear hK; simp only [go_sem, *]) | (simp only [z5, z4, go_sem, *]))
      all_goals try contradiction
      refine ⟨_, (by omega), [some 0, some 7], [], _, _, _, (by (simp only [Weak, go_sem, List.map_append, List.map_set, *] <;> (try simp (disch := omega) only [q9]) <;> (try simp) <;> (try omega))), i + 1, d', acc.take j ++ x :: acc.drop j, rfl, (by omega), (by rw [hk2]; exact hnx), rfl, rfl, rfl⟩
   ·have hin := B0 (x := x) (l := acc) (k := j) (by omega) hJ (fun h => absurd h hj2)
    rw [if_neg (fun h => hj2 h.1)] at hin
    rw [hin] at hnx
    clear hin
    have hj3 : ((j : Int) == (acc.length : Int)) = true := by simp; omega
    repeat' (first | (show z3 ..; first | (refine Qr rfl ?_; try intro _ hK; try simp only [go_sem, *]) | (refine Qi rfl rfl rfl rfl (fun hb _ hK => ?_) (fun hb => ?_) <;> (have hc := hb; try simp only [go_sem] at hc; simp only [go_sem, *]))) | (show Hold ..; first | refine Qh rfl ?_ | refine q6 rfl mixed (by kernel_rfl) ?_ | (refine z7 rfl ⟨_, rfl, fun hb => ?_, fun hb => ?_⟩ <;> (have hc := hb; try simp only [go_sem] at hc)) | refine z8 rfl ?_) | (with_reducible (show (∀ _ : AV, _ → _) ∧ _); refine And.intro ?_ ?_; (focus (intro y hy; first | (obtain ⟨z, _, rfl⟩ := List.mem_map.1 (hy); simp [go_sem]; done) | (obtain ⟨z, _, rfl⟩ := List.mem_map.1 (List.mem_of_mem_take hy); simp [go_sem]; done) | (obtain ⟨z, _, rfl⟩ := List.mem_map.1 (List.mem_of_mem_drop hy); simp [go_sem]; done) | (obtain ⟨z, _, rfl⟩ := List.mem_map.1 (List.mem_of_mem_drop (List.mem_of_mem_take hy)); simp [go_sem]; done)))) | (refine Qb ?_ ?_; focus kernel_rfl) | ((with_reducible refine And.intro ?_ ?_); focus omega) | (refine z6 hK ?_; clear hK; simp only [go_sem, *]) | (simp only [z5, z4, go_sem, *]))
    all_goals try contradiction
    refine ⟨_, (by omega), [some 0, some 7], [], _, _, _, (by (simp only [Weak, go_sem, List.map_append, List.map_set, *] <;> (try simp (disch := omega) only [q9]) <;> (try simp) <;> (try omega))), i + 1, d', acc.take j ++ x :: acc.drop j, rfl, (by omega), (by rw [hk2]; exact hnx), rfl, rfl, rfl⟩
 ·have hni : n - i = 0 := by omega
  rw [hni] at hP ⊢
  obtain ⟨e, _, _⟩ := hP
  rw [X7] at e
  cases e
  repeat' (first | (show z3 ..; first | (refine Qr rfl ?_; try intro _ hK; try simp only [go_sem, *]) | (refine Qi rfl rfl rfl rfl (fun hb _ hK => ?_) (fun hb => ?_) <;> (have hc := hb; try simp only [go_sem] at hc; simp only [go_sem, *]))) | (show Hold ..; first | refine Qh rfl ?_ | refine q6 rfl mixed (by kernel_rfl) ?_ | (refine z7 rfl ⟨_, rfl, fun hb => ?_, fun hb => ?_⟩ <;> (have hc := hb; try simp only [go_sem] at hc)) | refine z8 rfl ?_) | (refine Qb ?_ ?_; focus kernel_rfl) | ((with_reducible refine And.intro ?_ ?_); focus omega) | (refine z6 hK ?_; clear hK; simp only [go_sem, *]) | (simp only [z5, z4, go_sem, *]))
  refine ⟨[_], [some 0], [1], ⟨rfl, trivial⟩, ?_⟩
  simp only [go_sem, *]
end Go.Abs

namespace Go.Abs
open Go Go.Proofs Tryz
attribute [local irreducible] z3 Hold q7
theorem zCg (d : Dice) (h : Int) : (j9 d h).2.list = d.list := by unfold j9; rw [zGB, M7]
theorem zCh (h : Int) : ∀ (n : Nat) (d : Dice) (out : zLI), (c0 h n d out).2.list = d.list
 | 0, d, out => rfl
 | n + 1, d, out => by rw [c0, zCh h n]; exact zCg d h
theorem zKW (d : Dice) (h : Int) : (Q8 d h).2.list = d.list := by unfold Q8; rw [zCh, S5]
def StP (houses : Int) (k : Nat) (dd : Dice) (acc : zLI) (R : zLI × Dice) : Prop := c0 houses k dd acc = R ∧ dd.list.length ≤ 4294967296 ∧ acc.length + k ≤ 3
theorem StP.next {houses : Int} {dd : Dice} {k : Nat} {acc : zLI} {R : zLI × Dice} (h : StP houses (k + 1) dd acc R) : StP houses k (j9 dd houses).2 (acc ++ [(j9 dd houses).1]) R := by
 obtain ⟨h1, h2, h3⟩ := h
 exact ⟨h1, by rw [zCg]; exact h2, by simp; omega⟩
theorem zK4 (d : Dice) (houses : Int) (h : d.list.length ≤ 4294967296) (hm : houses ≤ 8) :
  zLJ prog 22 [.ptr 0 0, iV houses] [u9 d] (y5 (Q8 d houses).1) [u9 (Q8 d houses).2] := by
 have st := W0 d 1 3 h (by omega) (by omega)
 have hr := X0 (lo := 1) (hi := 3) (by omega) d
 obtain ⟨n, hn⟩ : ∃ n : Nat, u1 1 3 d = n := ⟨(u1 1 3 d).toNat, by omega⟩
 have h0 : StP houses (n - 0) (w7 1 3 d) [] (Q8 d houses) := by
  unfold Q8
  rw [hn]
  exact ⟨by simp, by rw [S5]; exact h, by simp; omega⟩
 rw [hn] at st hr
 generalize Q8 d houses = R at *
 obtain ⟨RL, RD⟩ := R
 clear hn
 generalize w7 1 3 d = d0 at *
 refine y3 func22 rfl (fun E hE => ?_); simp only [go_sem, ntmps22]
 repeat' (first | (show z3 ..; first | (refine Qr rfl ?_; try intro _ hK; try simp only [go_sem, *])) | (show Hold ..; first | refine Qh rfl ?_ | refine q6 rfl mixed (by kernel_rfl) ?_ | (refine z7 rfl ⟨_, rfl, fun hb => ?_, fun hb => ?_⟩ <;> (have hc := hb; try simp only [go_sem] at hc)) | refine z8 rfl ?_) | (refine Qb ?_ ?_; focus kernel_rfl) | (show q7 ..; first | (refine x8 [0] [] (st) (by simp) ?_ ?_ (by simp) (.inl rfl) ?_ ?_ ?_; (focus (simp only [go_sem, *]; done)); (focus (simp only [go_sem, *]; done)); (focus (first | (simp; done) | (simp [go_sem]; done))); (focus (first | (simp; done) | (simp [go_sem]; done))); simp only [go_sem, *])) | ((with_reducible refine And.intro ?_ ?_); focus omega) | (refine z6 hK ?_; clear hK; simp only [go_sem, *]) | (simp only [z5, z4, go_sem, *]))
 refine y8 rfl (fun zn zN zenv zAs => ∃ (i : Nat) (dd : Dice) (acc : zLI), zn = (n) - i ∧ i ≤ (n) ∧ (StP houses (n - i) dd acc (RL, RD)) ∧ zN = 26 ∧ zenv = [(6, iV ((n - i : Nat) : Int)), (5, .ptr 2 0), (4, .ptr 1 0), (1, iV houses), (0, .ptr 0 0)] ∧ zAs = [u9 dd, .box [zLb], .box [.own 3 1 0 acc.length], .box (acc.map y6)]) (n) ⟨[some 0, some 1, some 2, none], [], _, _, _, (by (simp only [Weak, go_sem, List.map_append, List.map_set, *] <;> (try simp (disch := omega) only [q9]) <;> (try simp) <;> (try omega))), 0, d0, [], (by simp), (by simp), (by exact h0), rfl, rfl, rfl⟩ ?_; rintro _ _ _ _ ⟨i, dd, acc, rfl, hi, hP, rfl, rfl, rfl⟩
 clear h0 st
 by_cases hi2 : i < n
 ·obtain ⟨k, hk⟩ : ∃ k, n - i = k + 1 := ⟨n - i - 1, by omega⟩
  have hk2 : n - (i + 1) = k := by omega
  rw [hk] at hP ⊢
  have hnx := hP.next
  have hw1 : IntKind.i64.wrap (((k + 1 : Nat) : Int) - 1) = (k : Int) := by rw [wrap_i64 (by omega) (by omega)]; omega
  have hgt : ((k + 1 : Nat) : Int) > 0 := by omega
  obtain ⟨_, hdl, hal⟩ := hP
  have s2 := zAL dd 3 hdl (by omega)
  have hol : (u6 3 dd).list.length ≤ 4294967296 := by rw [M7]; exact hdl
  unfold j9 at hnx
  generalize u6 3 dd = d2 at *
  by_cases b : Z1 3 dd = true
  ·rw [if_pos b] at hnx
   rw [b] at s2
   clear b
   have s3 := zCN d2 0 hol (by omega)
   generalize f8 d2 0 = L at *
   obtain ⟨l, d3⟩ := L
   have hnx2 : StP houses k d3 (acc ++ [l]) (RL, RD) := hnx
   clear hnx
   simp only at s3
   repeat' (first | (show z3 ..; first | (refine Qr rfl ?_; try intro _ hK; try simp only [go_sem, *])) | (show Hold ..; first | refine Qh rfl ?_ | refine q6 rfl mixed (by kernel_rfl) ?_ | (refine z7 rfl ⟨_, rfl, fun hb => ?_, fun hb => ?_⟩ <;> (have hc := hb; try simp only [go_sem] at hc)) | refine z8 rfl ?_) | (refine Qb ?_ ?_; focus kernel_rfl) | (show q7 ..; first | (refine x8 [0] [] (s2) (by simp) ?_ ?_ (by simp) (.inl rfl) ?_ ?_ ?_; (focus (simp only [go_sem, *]; done)); (focus (simp only [go_sem, *]; done)); (focus (first | (simp; done) | (simp [go_sem]; done))); (focus (first | (simp; done) | (simp [go_sem]; done))); simp only [go_sem, *]) | (refine x8 [0] [] (s3) (by simp) ?_ ?_ (by simp) (.inl rfl) ?_ ?_ ?_; (focus (simp only [go_sem, *]; done)); (focus (simp only [go_sem, *]; done)); (focus (first | (simp; done) | (simp [go_sem]; done))); (focus (first | (simp; done) | (simp [go_sem]; done))); simp only [go_sem, *])) | ((with_reducible refine And.intro ?_ ?_); focus omega) | (refine z6 hK ?_; clear hK; simp only [go_sem, *]) | (simp only [z5, z4, go_sem, *]))
   all_goals try contradiction
   refine ⟨_, (by omega), [some 0, some 1, some 2, some 5], [], _, _, _, (by (simp only [Weak, go_sem, List.map_append, List.map_set, *] <;> (try simp (disch := omega) only [q9]) <;> (try simp) <;> (try omega))), i + 1, d3, acc ++ [l], rfl, (by omega), (by rw [hk2]; exact hnx2), rfl, rfl, rfl⟩
  ·rw [if_neg b] at hnx
   rw [Bool.not_eq_true] at b
   rw [b] at s2
   clear b
   have s3 := zCN d2 houses hol hm
   generalize f8 d2 houses = L at *
   obtain ⟨l, d3⟩ := L
   have hnx2 : StP houses k d3 (acc ++ [l]) (RL, RD) := hnx
   clear hnx
   simp only at s3
   repeat' (first | (show z3 ..; first | (refine Qr rfl ?_; try intro _ hK; try simp only [go_sem, *])) | (show Hold ..; first | refine Qh rfl ?_ | refine q6 rfl mixed (by kernel_rfl) ?_ | (refine z7 rfl ⟨_, rfl, fun hb => ?_, fun hb => ?_⟩ <;> (have hc := hb; try simp only [go_sem] at hc)) | refine z8 rfl ?_) | (refine Qb ?_ ?_; focus kernel_rfl) | (show q7 ..; first | (refine x8 [0] [] (s2) (by simp) ?_ ?_ (by simp) (.inl rfl) ?_ ?_ ?_; (focus (simp only [go_sem, *]; done)); (focus (simp only [go_sem, *]; done)); (focus (first | (simp; done) | (simp [go_sem]; done))); (focus (first | (simp; done) | (simp [go_sem]; done))); simp only [go_sem, *]) | (refine x8 [0] [] (s3) (by simp) ?_ ?_ (by simp) (.inl rfl) ?_ ?_ ?_; (focus (simp only [go_sem, *]; done)); (focus (simp only [go_sem, *]; done)); (focus (first | (simp; done) | (simp [go_sem]; done))); (focus (first | (simp; done) | (simp [go_sem]; done))); simp only [go_sem, *])) | ((with_reducible refine And.intro ?_ ?_); focus omega) | (refine z6 hK ?_; clear hK; simp only [go_sem, *]) | (simp only [z5, z4, go_sem, *]))
   all_goals try contradiction
   refine ⟨_, (by omega), [some 0, some 1, some 2, some 5], [], _, _, _, (by (simp only [Weak, go_sem, List.map_append, List.map_set, *] <;> (try simp (disch := omega) only [q9]) <;> (try simp) <;> (try omega))), i + 1, d3, acc ++ [l], rfl, (by omega), (by rw [hk2]; exact hnx2), rfl, rfl, rfl⟩
 ·have hni : n - i = 0 := by omega
  rw [hni] at hP ⊢
  obtain ⟨e, _, _⟩ := hP
  rw [c0] at e
  cases e
  repeat' (first | (show z3 ..; first | (refine Qr rfl ?_; try intro _ hK; try simp only [go_sem, *])) | (show Hold ..; first | refine Qh rfl ?_ | refine q6 rfl mixed (by kernel_rfl) ?_ | (refine z7 rfl ⟨_, rfl, fun hb => ?_, fun hb => ?_⟩ <;> (have hc := hb; try simp only [go_sem] at hc)) | refine z8 rfl ?_) | (refine Qb ?_ ?_; focus kernel_rfl) | ((with_reducible refine And.intro ?_ ?_); focus omega) | (refine z6 hK ?_; clear hK; simp only [go_sem, *]) | (simp only [z5, z4, go_sem, *]))
  refine ⟨[.agg [.own 3 1 0 (List.length RL)]], [some 0], [3], ⟨by simp only [x9, go_sem], trivial⟩, ?_⟩
  simp only [go_sem, *]
  simp
end Go.Abs

namespace Go.Abs
open Go Go.Proofs Tryz
attribute [local irreducible] z3 Hold q7
theorem zAI (d : Dice) (l : List Plate) : (l5 d l).2.list = d.list := by
 unfold l5
 split
 ·exact p8 _ _
 ·split
  ·show (w7 1 9 (u6 12 d)).list = _
   unfold w7 u6; rw [p8, p8]
  ·show (toD _ (u6 12 d)).list = _
   unfold u6; rw [p8, p8]
theorem zAS (d : Dice) (l : List Plate) (h : d.list.length ≤ 4294967296) (hl : l.length ≤ 4294967296) :
  zLJ prog 86 [.ptr 0 0, y6 l] [u9 d] (Plate.enc (l5 d l).1) [u9 (l5 d l).2] := by
 have ho : (u6 12 d).list.length ≤ 4294967296 := by unfold u6; rw [p8]; exact h
 by_cases q : l.length = 0
 ·have s1 := W0 d 1 9 h (by omega) (by omega)
  have e : l5 d l = (⟨u1 1 9 d, 0⟩, w7 1 9 d) := by unfold l5; rw [if_pos q]
  rw [e]
  have q2 : ((l.length : Int) == 0) = true := by rw [beq_iff_eq]; omega
  clear e
  generalize u1 1 9 d = x1 at *
  generalize w7 1 9 d = d1 at *
  refine y3 func86 rfl (fun E hE => ?_); simp only [go_sem, ntmps86]
  repeat' (first | (show z3 ..; first | (refine Qr rfl ?_; try intro _ hK; try simp only [go_sem, *]) | (refine Qi rfl rfl rfl rfl (fun hb _ hK => ?_) (fun hb => ?_) <;> (have hc := hb; try simp only [go_sem] at hc; simp only [go_sem, *]))) | (show Hold ..; first | refine Qh rfl ?_ | (refine z7 rfl ⟨_, rfl, fun hb => ?_, fun hb => ?_⟩ <;> (have hc := hb; try simp only [go_sem] at hc)) | refine z8 rfl ?_) | (show q7 ..; first | (refine x8 [0] [] (s1) (by simp) ?_ ?_ (by simp) (.inl rfl) ?_ ?_ ?_; (focus (simp only [go_sem, *]; done)); (focus (simp only [go_sem, *]; done)); (focus (first | (simp; done) | (simp [go_sem]; done))); (focus (first | (simp; done) | (simp [go_sem]; done))); simp only [go_sem, *])) | ((with_reducible refine And.intro ?_ ?_); focus omega) | (refine z6 hK ?_; clear hK; simp only [go_sem, *]) | (simp only [z5, z4, go_sem, *]))
  all_goals try contradiction
  refine ⟨[.agg [iV x1, iV 0]], [some 0], [], ⟨by simp only [x9, go_sem], trivial⟩, ?_⟩
  simp only [go_sem, *]
 ·have q2 : ((l.length : Int) == 0) = false := by rw [beq_eq_false_iff_ne]; omega
  have so := zAL d 12 h (by omega)
  have e : l5 d l = if Z1 12 d = true then (⟨u1 1 9 (u6 12 d), 0⟩, w7 1 9 (u6 12 d)) else (l.getD (toN (l.length - 1) (u6 12 d)).toNat default, toD (l.length - 1) (u6 12 d)) := by unfold l5; rw [if_neg q]
  rw [e]
  clear e
  generalize u6 12 d = d1 at *
  by_cases b : Z1 12 d = true
  ·have s1 := W0 d1 1 9 ho (by omega) (by omega)
   rw [if_pos b]
   rw [b] at so
   clear b
   generalize u1 1 9 d1 = x1 at *
   generalize w7 1 9 d1 = d2 at *
   refine y3 func86 rfl (fun E hE => ?_); simp only [go_sem, ntmps86]
   repeat' (first | (show z3 ..; first | (refine Qr rfl ?_; try intro _ hK; try simp only [go_sem, *]) | (refine Qi rfl rfl rfl rfl (fun hb _ hK => ?_) (fun hb => ?_) <;> (have hc := hb; try simp only [go_sem] at hc; simp only [go_sem, *]))) | (show Hold ..; first | refine Qh rfl ?_ | (refine z7 rfl ⟨_, rfl, fun hb => ?_, fun hb => ?_⟩ <;> (have hc := hb; try simp only [go_sem] at hc)) | refine z8 rfl ?_) | (show q7 ..; first | (refine x8 [0] [] (so) (by simp) ?_ ?_ (by simp) (.inl rfl) ?_ ?_ ?_; (focus (simp only [go_sem, *]; done)); (focus (simp only [go_sem, *]; done)); (focus (first | (simp; done) | (simp [go_sem]; done))); (focus (first | (simp; done) | (simp [go_sem]; done))); simp only [go_sem, *]) | (refine x8 [0] [] (s1) (by simp) ?_ ?_ (by simp) (.inl rfl) ?_ ?_ ?_; (focus (simp only [go_sem, *]; done)); (focus (simp only [go_sem, *]; done)); (focus (first | (simp; done) | (simp [go_sem]; done))); (focus (first | (simp; done) | (simp [go_sem]; done))); simp only [go_sem, *])) | ((with_reducible refine And.intro ?_ ?_); focus omega) | (refine z6 hK ?_; clear hK; simp only [go_sem, *]) | (simp only [z5, z4, go_sem, *]))
   all_goals try contradiction
   refine ⟨[.agg [iV x1, iV 0]], [some 0], [], ⟨by simp only [x9, go_sem], trivial⟩, ?_⟩
   simp only [go_sem, *]
  ·rw [if_neg b]
   rw [Bool.not_eq_true] at b
   rw [b] at so
   clear b
   have s1 := L5 d1 ((l.length : Int) - 1) ho (by omega)
   have hr := zAW (n := (l.length : Int) - 1) (by omega) d1
   have hw : IntKind.i64.wrap ((l.length : Int) - 1) = (l.length : Int) - 1 := wrap_i64 (by omega) (by omega)
   obtain ⟨k, hk⟩ : ∃ k : Nat, toN ((l.length : Int) - 1) d1 = k := ⟨(toN ((l.length : Int) - 1) d1).toNat, by omega⟩
   rw [hk] at hr s1 ⊢
   have hkl : k < l.length := by omega
   simp only [Int.toNat_natCast]
   clear hk hr
   generalize toD ((l.length : Int) - 1) d1 = d2 at *
   refine y3 func86 rfl (fun E hE => ?_); simp only [go_sem, ntmps86]
   repeat' (first | (show z3 ..; first | (refine Qr rfl ?_; try intro _ hK; try simp only [go_sem, *]) | (refine Qi rfl rfl rfl rfl (fun hb _ hK => ?_) (fun hb => ?_) <;> (have hc := hb; try simp only [go_sem] at hc; simp only [go_sem, *]))) | (show Hold ..; first | refine Qh rfl ?_ | (refine z7 rfl ⟨_, rfl, fun hb => ?_, fun hb => ?_⟩ <;> (have hc := hb; try simp only [go_sem] at hc)) | refine z8 rfl ?_) | (show q7 ..; first | (refine x8 [0] [] (so) (by simp) ?_ ?_ (by simp) (.inl rfl) ?_ ?_ ?_; (focus (simp only [go_sem, *]; done)); (focus (simp only [go_sem, *]; done)); (focus (first | (simp; done) | (simp [go_sem]; done))); (focus (first | (simp; done) | (simp [go_sem]; done))); simp only [go_sem, *]) | (refine x8 [0] [] (s1) (by simp) ?_ ?_ (by simp) (.inl rfl) ?_ ?_ ?_; (focus (simp only [go_sem, *]; done)); (focus (simp only [go_sem, *]; done)); (focus (first | (simp; done) | (simp [go_sem]; done))); (focus (first | (simp; done) | (simp [go_sem]; done))); simp only [go_sem, *])) | ((with_reducible refine And.intro ?_ ?_); focus omega) | (refine z6 hK ?_; clear hK; simp only [go_sem, *]) | (simp only [z5, z4, go_sem, *]))
   all_goals try contradiction
   refine ⟨[(l.getD k default).enc], [some 0], [], ⟨by simp only [x9, go_sem], trivial⟩, ?_⟩
   simp only [go_sem, *]
end Go.Abs

