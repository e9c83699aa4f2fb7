/-
  WHAT THE PROOF STANDS ON, PART 6: contracts of the program's functions and the logic that they are proved in. No condition.
-/
import Derived.Test.YtmhleaopjcfjnaaGreatQ5
set_option linter.unusedVariables false
set_option linter.unusedSimpArgs false
set_option linter.unusedSectionVars false
namespace Go.Abs
open Go
def canL (p : Plan) (l : List Change) : List Change := l.filter fun c => decide (can p c = 0)
theorem canL_yes {p : Plan} {l : List Change} {i : Nat} (h : i < l.length) (e : can p (l.getD i default) = 0) : canL p (l.drop i) = l.getD i default :: canL p (l.drop (i + 1)) := by
 unfold canL; rw [drop_cons h, List.filter_cons_of_pos (by simpa using e)]
theorem canL_no {p : Plan} {l : List Change} {i : Nat} (h : i < l.length) (e : ¬ can p (l.getD i default) = 0) : canL p (l.drop i) = canL p (l.drop (i + 1)) := by
 unfold canL; rw [drop_cons h, List.filter_cons_of_neg (by simpa using e)]
theorem canL_end {p : Plan} {l : List Change} {i : Nat} (h : l.length ≤ i) : canL p (l.drop i) = [] := by rw [drop_end h]; rfl
def chFrom (kind : Int) (p : Plan) (s : Nat) : List Change := (List.range' s (p.length - s)).flatMap fun s => canL p (changesAt kind p s)
def chK : Nat → Plan → List Change
 | 0, _ => []
 | m + 1, p => chFrom (6 - (m : Nat)) p 0 ++ chK m p
theorem chK_eq (p : Plan) : changesOf p = chK 6 p := by
 unfold changesOf
 simp [chK, chFrom, canL, List.range_eq_range']
theorem chFrom_step {kind : Int} {p : Plan} {s : Nat} (h : s < p.length) : chFrom kind p s = canL p (changesAt kind p s) ++ chFrom kind p (s + 1) := by
 unfold chFrom
 rw [show p.length - s = (p.length - (s + 1)) + 1 by omega, List.range'_succ, List.flatMap_cons]
theorem chFrom_end {kind : Int} {p : Plan} {s : Nat} (h : p.length ≤ s) : chFrom kind p s = [] := by
 unfold chFrom
 rw [show p.length - s = 0 by omega]; rfl
theorem changesOf_len {p : Plan} (v : Valid p) : (changesOf p).length ≤ 144 := by
 rw [changesOf_eq]
 exact Nat.le_trans (List.length_filter_le _ _) (guessK_len v 6)
theorem changesOf_can {p : Plan} {c : Change} (h : c ∈ changesOf p) : can p c = 0 := by
 rw [changesOf_eq] at h
 simpa using (List.mem_filter.1 h).2
theorem changesAt_join {p : Plan} {s : Nat} : changesAt 4 p s = (List.range p.length).map fun o => ⟨4, s, (o : Nat), zeroPlate, zeroPlate⟩ := by simp [changesAt]
theorem changesAt_each {kind : Int} {p : Plan} {s : Nat} (h4 : ¬ kind = 4) (h : kind = 5 ∨ kind = 6) : changesAt kind p s = (p.getD s default).map fun x => ⟨kind, s, 0, x, zeroPlate⟩ := by
 unfold changesAt; rw [if_neg h4, if_pos h]
theorem changesAt_else {kind : Int} {p : Plan} {s : Nat} (h4 : ¬ kind = 4) (h : ¬ (kind = 5 ∨ kind = 6)) : changesAt kind p s = [⟨kind, s, 0, zeroPlate, zeroPlate⟩] := by
 unfold changesAt; rw [if_neg h4, if_neg h]
theorem first_no {α β : Type} [Inhabited α] {f : α → Option β} {l : List α} {i : Nat} {G : Option β} (h : i < l.length) (hP : firstSome f (l.drop i) = G) (e : f (l.getD i default) = none) : firstSome f (l.drop (i + 1)) = G := by
 rw [drop_cons h, firstSome, e] at hP; exact hP
theorem first_yes {α β : Type} [Inhabited α] {f : α → Option β} {l : List α} {i : Nat} {G : Option β} {x : β} (h : i < l.length) (hP : firstSome f (l.drop i) = G) (e : f (l.getD i default) = some x) : G = some x := by
 rw [drop_cons h, firstSome, e] at hP; exact hP.symm
theorem first_end {α β : Type} {f : α → Option β} {l : List α} {i : Nat} {G : Option β} (h : l.length ≤ i) (hP : firstSome f (l.drop i) = G) : G = none := by
 rw [drop_end h, firstSome] at hP; exact hP.symm
def g1 (q : Plan) (p : Plan) (c : Change) : Option (List Change) := (guessN 0 (afterOf p c) q).map (c :: ·)
def g2 (q : Plan) (p : Plan) (c : Change) : Option (List Change) := (guessN 1 (afterOf p c) q).map (c :: ·)
end Go.Abs

namespace Go.Abs
open Go Go.Proofs
set_option maxRecDepth 10000
set_option maxHeartbeats 4000000
def srcOf (l : List Move) (h : House) : Option House := (l.find? fun m => decide (m.dst = h)).map Move.src
def zeroHouse : House := ⟨0, zeroPlate⟩
end Go.Abs

namespace Go.Abs
open Go Go.Proofs
set_option maxRecDepth 10000
set_option maxHeartbeats 4000000
end Go.Abs

namespace Go.Abs
open Go Go.Proofs
set_option maxRecDepth 10000
set_option maxHeartbeats 4000000
def dstOf (l : List Move) (h : House) : List House := (l.filter fun m => decide (m.src = h)).map Move.dst
end Go.Abs

namespace Go.Abs
open Go Go.Proofs
set_option maxRecDepth 10000
theorem sp_rAfter (p : Plan) (c : Change) (hp : p.length ≤ 4294967296) :
  Spec Tryz.prog 26 [encPlan p, c.enc] [] (.tup [encPlan (if errOf p c = 0 then afterOf p c else []), iV (errOf p c)]) [] := by
 by_cases e : errOf p c = 0
 ·obtain ⟨v, f⟩ := err_zero e
  have s := sp_rAfter_ok p c v f e
  rw [if_pos e, e]; exact s
 ·have s := sp_rAfter_err p c hp e
  rw [if_neg e]; exact s
end Go.Abs

namespace Go.Abs
open Go Go.Proofs
set_option maxRecDepth 10000
set_option maxHeartbeats 4000000
theorem sp_rSame (a b : Plan) (h1 : a.length ≤ 4294967296) (hrl : ∀ l, l ∈ a → l.length ≤ 4294967296) : Spec Tryz.prog 113 [encPlan a, encPlan b] [] (bV (decide (a = b))) [] := by
 refine spec_body Tryz.func113 rfl (fun E hE => ?_); simp only [go_sem, Tryz.ntmps113]
 repeat' (first | (with_reducible (show runOps ..); first | (refine Qr rfl ?_; try intro K' hK; try simp only [go_sem, *])) | (with_reducible (show Hold ..); first | refine Qh rfl ?_ | refine s_draw rfl Tryz.mixed (by kernel_rfl) ?_ | (refine s_cond rfl ⟨_, rfl, fun hb => ?_, fun hb => ?_⟩ <;> (have hc := hb; try simp only [go_sem] at hc)) | refine s_ret rfl ?_) | ((with_reducible refine Qb ?_ ?_); focus kernel_rfl) | ((with_reducible refine And.intro ?_ ?_); focus omega) | (refine contA_of hK ?_; clear hK K'; simp only [go_sem, *]) | (simp only [thenA, inBlockA, go_sem, *]))
 ·(refine ⟨[_], [], [], ⟨rfl, trivial⟩, ?_⟩; simp only [go_sem, *])
  simp [len_no (a := a) (b := b) (by assumption)]
 ·have hlb : a.length = b.length := by assumption
  refine s_loop rfl (fun zn zN zenv zAs => ∃ (i : Nat), zn = (b.length) - i ∧ i ≤ (b.length) ∧ (a.take i = b.take i) ∧ zN = 61 ∧ zenv = [(5, iV i), (2, .ptr 0 0), (3, .ptr 1 0)] ∧ zAs = [pBox a, pBox b]) (b.length) ⟨[some 0, some 1], [], _, _, _, (by (simp only [Weak, go_sem, List.map_append, List.map_set, *] <;> (try simp (disch := omega) only [wrap_succ]) <;> (try simp) <;> (try omega))), 0, (by simp), (by simp), (by simp), rfl, rfl, rfl⟩ ?_; rintro _ _ _ _ ⟨i, rfl, hi, hP, rfl, rfl, rfl⟩
  by_cases hi2 : i < b.length
  ·have hra := hrl _ (getD_mem (l := a) (i := i) (by omega))
   have hia : i < a.length := by omega
   obtain ⟨e1, he1⟩ : ∃ e1, e1 = a.getD i default := ⟨_, rfl⟩
   obtain ⟨e2, he2⟩ : ∃ e2, e2 = b.getD i default := ⟨_, rfl⟩
   have nx0 : e1 = e2 → a.take (i + 1) = b.take (i + 1) := fun e => tk_next (by omega) (by omega) hP (by rw [← he1, ← he2]; exact e)
   have no0 : ¬ e1 = e2 → ¬ a = b := fun e => tk_no (i := i) (by rw [← he1, ← he2]; exact e)
   rw [← he1] at hra
   repeat' (first | (with_reducible (show runOps ..); first | (refine Qr rfl ?_; try intro K' hK; try simp only [go_sem, *])) | (with_reducible (show Hold ..); first | refine Qh rfl ?_ | refine s_draw rfl Tryz.mixed (by kernel_rfl) ?_ | (refine s_cond rfl ⟨_, rfl, fun hb => ?_, fun hb => ?_⟩ <;> (have hc := hb; try simp only [go_sem] at hc)) | refine s_ret rfl ?_) | ((with_reducible refine Qb ?_ ?_); focus kernel_rfl) | ((with_reducible refine And.intro ?_ ?_); focus omega) | (refine contA_of hK ?_; clear hK K'; simp only [go_sem, *]) | (simp only [thenA, inBlockA, go_sem, *]))
   ·rw [← he1, ← he2] at *
    (refine ⟨[_], [], [], ⟨rfl, trivial⟩, ?_⟩; simp only [go_sem, *])
    simp [no0 (len_no (by assumption))]
   ·have hl2 : (a.getD i default).length = (b.getD i default).length := by assumption
    have hkb : (b.getD i default).length ≤ 4294967296 := by rw [← hl2, ← he1]; exact hra
    refine s_loop rfl (fun zn zN zenv zAs => ∃ (k : Nat), zn = ((b.getD i default).length) - k ∧ k ≤ ((b.getD i default).length) ∧ ((a.getD i default).take k = (b.getD i default).take k) ∧ zN = 61 ∧ zenv = [(6, iV k), (5, iV i), (2, .ptr 0 0), (3, .ptr 1 0)] ∧ zAs = [pBox a, pBox b]) ((b.getD i default).length) ⟨[some 0, some 1], [], _, _, _, (by (simp only [Weak, go_sem, List.map_append, List.map_set, *] <;> (try simp (disch := omega) only [wrap_succ]) <;> (try simp) <;> (try omega))), 0, (by simp), (by simp), (by simp), rfl, rfl, rfl⟩ ?_; rintro _ _ _ _ ⟨k, rfl, hk, hQ, rfl, rfl, rfl⟩
    repeat' (first | (with_reducible (show runOps ..); first | (refine Qr rfl ?_; try intro K' hK; try simp only [go_sem, *])) | (with_reducible (show Hold ..); first | refine Qh rfl ?_ | refine s_draw rfl Tryz.mixed (by kernel_rfl) ?_ | (refine s_cond rfl ⟨_, rfl, fun hb => ?_, fun hb => ?_⟩ <;> (have hc := hb; try simp only [go_sem] at hc)) | refine s_ret rfl ?_) | ((with_reducible refine Qb ?_ ?_); focus kernel_rfl) | ((with_reducible refine And.intro ?_ ?_); focus omega) | (refine contA_of hK ?_; clear hK K'; simp only [go_sem, *]) | (simp only [thenA, inBlockA, go_sem, *]))
    ·(refine ⟨[_], [], [], ⟨rfl, trivial⟩, ?_⟩; simp only [go_sem, *])
     simp [no0 (by rw [he1, he2]; exact tk_no (i := k) (by assumption))]
    ·refine ⟨_, (by omega), [some 0, some 1], [], _, _, _, (by (simp only [Weak, go_sem, List.map_append, List.map_set, *] <;> (try simp (disch := omega) only [wrap_succ]) <;> (try simp) <;> (try omega))), k + 1, rfl, (by omega), (by exact tk_next (by omega) (by omega) hQ (by assumption)), rfl, rfl, rfl⟩
    ·refine ⟨_, (by omega), [some 0, some 1], [], _, _, _, (by (simp only [Weak, go_sem, List.map_append, List.map_set, *] <;> (try simp (disch := omega) only [wrap_succ]) <;> (try simp) <;> (try omega))), i + 1, rfl, (by omega), (by exact nx0 (by rw [he1, he2]; exact tk_end (by omega) hl2 hQ)), rfl, rfl, rfl⟩
  ·repeat' (first | (with_reducible (show runOps ..); first | (refine Qr rfl ?_; try intro K' hK; try simp only [go_sem, *])) | (with_reducible (show Hold ..); first | refine Qh rfl ?_ | refine s_draw rfl Tryz.mixed (by kernel_rfl) ?_ | (refine s_cond rfl ⟨_, rfl, fun hb => ?_, fun hb => ?_⟩ <;> (have hc := hb; try simp only [go_sem] at hc)) | refine s_ret rfl ?_) | ((with_reducible refine Qb ?_ ?_); focus kernel_rfl) | ((with_reducible refine And.intro ?_ ?_); focus omega) | (refine contA_of hK ?_; clear hK K'; simp only [go_sem, *]) | (simp only [thenA, inBlockA, go_sem, *]))
   (refine ⟨[_], [], [], ⟨rfl, trivial⟩, ?_⟩; simp only [go_sem, *])
   simp [tk_end (by omega) hlb hP]
theorem take_L {α : Type} [Inhabited α] {l : List α} {i : Nat} {x : α} (h : i < l.length) (e : l.getD i default = x) : l.take (i + 1) = l.take i ++ [x] := by rw [take_succ_getD h, e]
theorem sp_rChanges (p : Plan) (v : Valid p) : Spec Tryz.prog 35 [encPlan p] [] (.list ((changesOf p).map Change.enc)) [] := by
 have hp3 := v.len
 have hRl := changesOf_len v
 have hR0 : ([] : List Change) ++ chK (6 - 0) p = changesOf p := (chK_eq p).symm
 have sC := fun c => sp_Can p c v
 generalize changesOf p = R at *
 refine spec_body Tryz.func35 rfl (fun E hE => ?_); simp only [go_sem, Tryz.ntmps35]
 repeat' (first | (with_reducible (show runOps ..); first | (refine Qr rfl ?_; try intro K' hK; try simp only [go_sem, *])) | (with_reducible (show Hold ..); first | refine Qh rfl ?_ | refine s_draw rfl Tryz.mixed (by kernel_rfl) ?_ | (refine s_cond rfl ⟨_, rfl, fun hb => ?_, fun hb => ?_⟩ <;> (have hc := hb; try simp only [go_sem] at hc)) | refine s_ret rfl ?_) | ((with_reducible refine Qb ?_ ?_); focus kernel_rfl) | ((with_reducible refine And.intro ?_ ?_); focus omega) | (refine contA_of hK ?_; clear hK K'; simp only [go_sem, *]) | (simp only [thenA, inBlockA, go_sem, *]))
 refine s_loop rfl (fun zn zN zenv zAs => ∃ (m : Nat) (acc : List Change), zn = (6) - m ∧ m ≤ (6) ∧ (acc ++ chK (6 - m) p = R) ∧ zN = 92 ∧ zenv = [(4, iV ((m : Int) + 1)), (3, .own 1 7 0 acc.length), (1, .ptr 0 0)] ∧ zAs = [pBox p, .row 7 (acc.map Change.enc)]) (6) ⟨[some 0, none], [], _, _, _, (by (simp only [Weak, go_sem, List.map_append, List.map_set, *] <;> (try simp (disch := omega) only [wrap_succ]) <;> (try simp) <;> (try omega))), 0, [], (by simp), (by simp), (by exact hR0), rfl, rfl, rfl⟩ ?_; rintro _ _ _ _ ⟨m, acc, rfl, hm, hP, rfl, rfl, rfl⟩
 clear hR0
 have hw : m < 6 → IntKind.i64.wrap ((m : Int) + 1 + 1) = (((m + 1 : Nat) : Int) + 1) := fun h => by rw [wrap_i64 (by omega) (by omega)]; omega
 have hm6 : ((m : Int) + 1 ≤ 6) = (m < 6) := by simp only [eq_iff_iff]; omega
 by_cases hm : m < 6
 ·obtain ⟨kk, hkk⟩ : ∃ kk : Int, kk = (m : Int) + 1 := ⟨_, rfl⟩
  have hstep : chK (6 - m) p = chFrom kk p 0 ++ chK (6 - (m + 1)) p := by
   rw [show 6 - m = (6 - (m + 1)) + 1 by omega, chK, hkk]
   congr 2
   omega
  rw [hstep] at hP
  have hw2 : IntKind.i64.wrap (kk + 1) = ((m + 1 : Nat) : Int) + 1 := by rw [hkk, hw hm]
  have hk6 : kk ≤ 6 := by omega
  clear hw
  rw [← hkk] at *
  clear hstep
  repeat' (first | (with_reducible (show runOps ..); first | (refine Qr rfl ?_; try intro K' hK; try simp only [go_sem, *])) | (with_reducible (show Hold ..); first | refine Qh rfl ?_ | refine s_draw rfl Tryz.mixed (by kernel_rfl) ?_ | (refine s_cond rfl ⟨_, rfl, fun hb => ?_, fun hb => ?_⟩ <;> (have hc := hb; try simp only [go_sem] at hc)) | refine s_ret rfl ?_) | ((with_reducible refine Qb ?_ ?_); focus kernel_rfl) | ((with_reducible refine And.intro ?_ ?_); focus omega) | (refine contA_of hK ?_; clear hK K'; simp only [go_sem, *]) | (simp only [thenA, inBlockA, go_sem, *]))
  refine s_loop rfl (fun zn zN zenv zAs => ∃ (s : Nat) (acc : List Change), zn = (p.length) - s ∧ s ≤ (p.length) ∧ (acc ++ (chFrom kk p s ++ chK (6 - (m + 1)) p) = R) ∧ zN = 92 ∧ zenv = [(5, iV s), (4, iV kk), (3, .own 1 7 0 acc.length), (1, .ptr 0 0)] ∧ zAs = [pBox p, .row 7 (acc.map Change.enc)]) (p.length) ⟨[some 0, some 1], [], _, _, _, (by (simp only [Weak, go_sem, List.map_append, List.map_set, *] <;> (try simp (disch := omega) only [wrap_succ]) <;> (try simp) <;> (try omega))), 0, acc, (by simp), (by simp), (by exact hP), rfl, rfl, rfl⟩ ?_; rintro _ _ _ _ ⟨s, acc, rfl, hs, hQ, rfl, rfl, rfl⟩
  clear hP
  by_cases hs : s < p.length
  ·rw [chFrom_step hs] at hQ
   have hrow : (p.getD s default).length ≤ 8 := (v.rows _ (getD_mem hs)).len
   obtain ⟨L, hL⟩ : ∃ L, L = changesAt kk p s := ⟨_, rfl⟩
   rw [← hL] at hQ
   have hLl : L.length ≤ 8 := by
    rw [hL]; unfold changesAt
    split
    ·simp only [List.length_map, List.length_range]; omega
    ·split
     ·simpa using hrow
     ·simp
   have k47 : (kk == 4) = decide (kk = 4) := by rw [Bool.eq_iff_iff]; simp
   by_cases k4 : kk = 4
   case' pos =>
    have hLn : L.length = p.length := by rw [hL, k4, changesAt_join]; simp
    have hLg : ∀ o, o < p.length → L.getD o default = ⟨kk, s, o, zeroPlate, zeroPlate⟩ := fun o ho => by rw [hL, k4, changesAt_join]; simp [List.getD, ho]
    have d4 : decide (kk = 4) = true := decide_eq_true k4
    clear hL k4
    repeat' (first | (with_reducible (show runOps ..); first | (refine Qr rfl ?_; try intro K' hK; try simp only [go_sem, *])) | (with_reducible (show Hold ..); first | refine Qh rfl ?_ | refine s_draw rfl Tryz.mixed (by kernel_rfl) ?_ | (refine s_cond rfl ⟨_, rfl, fun hb => ?_, fun hb => ?_⟩ <;> (have hc := hb; try simp only [go_sem] at hc)) | refine s_ret rfl ?_) | ((with_reducible refine Qb ?_ ?_); focus kernel_rfl) | ((with_reducible refine And.intro ?_ ?_); focus omega) | (refine contA_of hK ?_; clear hK K'; simp only [go_sem, *]) | (simp only [thenA, inBlockA, go_sem, *]))
    all_goals first | contradiction | omega | skip
    refine s_loop rfl (fun zn zN zenv zAs => ∃ (o : Nat), zn = (p.length) - o ∧ o ≤ (p.length) ∧ (NoP o) ∧ zN = 92 ∧ zenv = [(7, iV o), (6, .own 2 7 0 o), (5, iV s), (4, iV kk), (3, .own 1 7 0 acc.length), (1, .ptr 0 0)] ∧ zAs = [pBox p, .row 7 (acc.map Change.enc), .row 7 ((L.take o).map Change.enc)]) (p.length) ⟨[some 0, some 1, none], [], _, _, _, (by (simp only [Weak, go_sem, List.map_append, List.map_set, *] <;> (try simp (disch := omega) only [wrap_succ]) <;> (try simp) <;> (try omega))), 0, (by simp), (by simp), (by trivial), rfl, rfl, rfl⟩ ?_; rintro _ _ _ _ ⟨o, rfl, ho, hS, rfl, rfl, rfl⟩
    by_cases ho : o < p.length
    ·have ho3 : (o : Int) < p.length := by omega
     have e := take_L (l := L) (i := o) (by omega) (hLg o ho)
     clear hLg
     repeat' (first | (with_reducible (show runOps ..); first | (refine Qr rfl ?_; try intro K' hK; try simp only [go_sem, *])) | (with_reducible (show Hold ..); first | refine Qh rfl ?_ | refine s_draw rfl Tryz.mixed (by kernel_rfl) ?_ | (refine s_cond rfl ⟨_, rfl, fun hb => ?_, fun hb => ?_⟩ <;> (have hc := hb; try simp only [go_sem] at hc)) | refine s_ret rfl ?_) | ((with_reducible refine Qb ?_ ?_); focus kernel_rfl) | ((with_reducible refine And.intro ?_ ?_); focus omega) | (refine contA_of hK ?_; clear hK K'; simp only [go_sem, *]) | (simp only [thenA, inBlockA, go_sem, *]))
     all_goals first | contradiction | omega | skip
     refine ⟨_, (by omega), [some 0, some 1, some 4], [], _, _, _, (by (simp only [Weak, go_sem, List.map_append, List.map_set, *] <;> (try simp (disch := omega) only [wrap_succ]) <;> (try simp) <;> (try omega))), o + 1, rfl, (by omega), (by trivial), rfl, rfl, rfl⟩
    have ho3 : ¬ (o : Int) < p.length := by omega
    have e : L.take o = L := List.take_of_length_le (by omega)
    have e2 : o = L.length := by omega
    subst e2
    clear hLg hLn
    repeat' (first | (with_reducible (show runOps ..); first | (refine Qr rfl ?_; try intro K' hK; try simp only [go_sem, *])) | (with_reducible (show Hold ..); first | refine Qh rfl ?_ | refine s_draw rfl Tryz.mixed (by kernel_rfl) ?_ | (refine s_cond rfl ⟨_, rfl, fun hb => ?_, fun hb => ?_⟩ <;> (have hc := hb; try simp only [go_sem] at hc)) | refine s_ret rfl ?_) | ((with_reducible refine Qb ?_ ?_); focus kernel_rfl) | ((with_reducible refine And.intro ?_ ?_); focus omega) | (refine contA_of hK ?_; clear hK K'; simp only [go_sem, *]) | (simp only [thenA, inBlockA, go_sem, *]))
    all_goals first | contradiction | omega | skip
    refine s_loop rfl (fun zn zN zenv zAs => ∃ (j : Nat) (acc : List Change), zn = (L.length) - j ∧ j ≤ (L.length) ∧ (acc ++ (canL p (L.drop j) ++ chFrom kk p (s + 1) ++ chK (6 - (m + 1)) p) = R) ∧ zN = 92 ∧ zenv = [(9, iV j), (6, .own 2 7 0 L.length), (5, iV s), (4, iV kk), (3, .own 1 7 0 acc.length), (1, .ptr 0 0)] ∧ zAs = [pBox p, .row 7 (acc.map Change.enc), .row 7 (L.map Change.enc)]) (L.length) ⟨[some 0, some 1, some 2], [], _, _, _, (by (simp only [Weak, go_sem, List.map_append, List.map_set, *] <;> (try simp (disch := omega) only [wrap_succ]) <;> (try simp) <;> (try omega))), 0, acc, (by simp), (by simp), (by exact hQ), rfl, rfl, rfl⟩ ?_; rintro _ _ _ _ ⟨j, acc, rfl, hj, hS2, rfl, rfl, rfl⟩
   case' neg =>
    have d4 : decide (kk = 4) = false := decide_eq_false k4
    by_cases k5 : kk = 5 ∨ kk = 6
    case' pos =>
     have hc5 : (kk == 5) = true ∨ (kk == 5) = false ∧ (kk == 6) = true := by
      rcases k5 with k5 | k5
      ·exact .inl (by simpa using k5)
      ·exact .inr ⟨by simp [k5], by simpa using k5⟩
     rw [changesAt_each k4 k5] at hL
     generalize hll : p.getD s default = l at *
     have hLn : L.length = l.length := by rw [hL]; simp
     have hLg : ∀ o, o < l.length → L.getD o default = ⟨kk, s, 0, l.getD o default, zeroPlate⟩ := fun o ho => by rw [hL]; simp [List.getD, ho]
     clear hL k4 k5
     rcases hc5 with k5 | ⟨k5, k6⟩
     all_goals
      repeat' (first | (with_reducible (show runOps ..); first | (refine Qr rfl ?_; try intro K' hK; try simp only [go_sem, *])) | (with_reducible (show Hold ..); first | refine Qh rfl ?_ | refine s_draw rfl Tryz.mixed (by kernel_rfl) ?_ | (refine s_cond rfl ⟨_, rfl, fun hb => ?_, fun hb => ?_⟩ <;> (have hc := hb; try simp only [go_sem] at hc)) | refine s_ret rfl ?_) | ((with_reducible refine Qb ?_ ?_); focus kernel_rfl) | ((with_reducible refine And.intro ?_ ?_); focus omega) | (refine contA_of hK ?_; clear hK K'; simp only [go_sem, *]) | (simp only [thenA, inBlockA, go_sem, *]))
      all_goals first | contradiction | omega | skip
      refine s_loop rfl (fun zn zN zenv zAs => ∃ (o : Nat), zn = (l.length) - o ∧ o ≤ (l.length) ∧ (NoP o) ∧ zN = 92 ∧ zenv = [(8, iV o), (6, .own 2 7 0 o), (5, iV s), (4, iV kk), (3, .own 1 7 0 acc.length), (1, .ptr 0 0)] ∧ zAs = [pBox p, .row 7 (acc.map Change.enc), .row 7 ((L.take o).map Change.enc)]) (l.length) ⟨[some 0, some 1, none], [], _, _, _, (by (simp only [Weak, go_sem, List.map_append, List.map_set, *] <;> (try simp (disch := omega) only [wrap_succ]) <;> (try simp) <;> (try omega))), 0, (by simp), (by simp), (by trivial), rfl, rfl, rfl⟩ ?_; rintro _ _ _ _ ⟨o, rfl, ho, hS, rfl, rfl, rfl⟩
      by_cases ho : o < l.length
      ·have ho3 : (o : Int) < l.length := by omega
       have e := take_L (l := L) (i := o) (by omega) (hLg o ho)
       clear hLg
       repeat' (first | (with_reducible (show runOps ..); first | (refine Qr rfl ?_; try intro K' hK; try simp only [go_sem, *])) | (with_reducible (show Hold ..); first | refine Qh rfl ?_ | refine s_draw rfl Tryz.mixed (by kernel_rfl) ?_ | (refine s_cond rfl ⟨_, rfl, fun hb => ?_, fun hb => ?_⟩ <;> (have hc := hb; try simp only [go_sem] at hc)) | refine s_ret rfl ?_) | ((with_reducible refine Qb ?_ ?_); focus kernel_rfl) | ((with_reducible refine And.intro ?_ ?_); focus omega) | (refine contA_of hK ?_; clear hK K'; simp only [go_sem, *]) | (simp only [thenA, inBlockA, go_sem, *]))
       all_goals first | contradiction | omega | skip
       refine ⟨_, (by omega), [some 0, some 1, some 4], [], _, _, _, (by (simp only [Weak, go_sem, List.map_append, List.map_set, *] <;> (try simp (disch := omega) only [wrap_succ]) <;> (try simp) <;> (try omega))), o + 1, rfl, (by omega), (by trivial), rfl, rfl, rfl⟩
      have ho3 : ¬ (o : Int) < l.length := by omega
      have e : L.take o = L := List.take_of_length_le (by omega)
      have e2 : o = L.length := by omega
      subst e2
      clear hLg hLn
      repeat' (first | (with_reducible (show runOps ..); first | (refine Qr rfl ?_; try intro K' hK; try simp only [go_sem, *])) | (with_reducible (show Hold ..); first | refine Qh rfl ?_ | refine s_draw rfl Tryz.mixed (by kernel_rfl) ?_ | (refine s_cond rfl ⟨_, rfl, fun hb => ?_, fun hb => ?_⟩ <;> (have hc := hb; try simp only [go_sem] at hc)) | refine s_ret rfl ?_) | ((with_reducible refine Qb ?_ ?_); focus kernel_rfl) | ((with_reducible refine And.intro ?_ ?_); focus omega) | (refine contA_of hK ?_; clear hK K'; simp only [go_sem, *]) | (simp only [thenA, inBlockA, go_sem, *]))
      all_goals first | contradiction | omega | skip
      clear hll
      refine s_loop rfl (fun zn zN zenv zAs => ∃ (j : Nat) (acc : List Change), zn = (L.length) - j ∧ j ≤ (L.length) ∧ (acc ++ (canL p (L.drop j) ++ chFrom kk p (s + 1) ++ chK (6 - (m + 1)) p) = R) ∧ zN = 92 ∧ zenv = [(9, iV j), (6, .own 2 7 0 L.length), (5, iV s), (4, iV kk), (3, .own 1 7 0 acc.length), (1, .ptr 0 0)] ∧ zAs = [pBox p, .row 7 (acc.map Change.enc), .row 7 (L.map Change.enc)]) (L.length) ⟨[some 0, some 1, some 2], [], _, _, _, (by (simp only [Weak, go_sem, List.map_append, List.map_set, *] <;> (try simp (disch := omega) only [wrap_succ]) <;> (try simp) <;> (try omega))), 0, acc, (by simp), (by simp), (by exact hQ), rfl, rfl, rfl⟩ ?_; rintro _ _ _ _ ⟨j, acc, rfl, hj, hS2, rfl, rfl, rfl⟩
    case' neg =>
     have k55 : (kk == 5) = false := by simp only [not_or] at k5; simpa using k5.1
     have k6 : (kk == 6) = false := by simp only [not_or] at k5; simpa using k5.2
     rw [changesAt_else k4 k5] at hL
     clear k4 k5
     repeat' (first | (with_reducible (show runOps ..); first | (refine Qr rfl ?_; try intro K' hK; try simp only [go_sem, *])) | (with_reducible (show Hold ..); first | refine Qh rfl ?_ | refine s_draw rfl Tryz.mixed (by kernel_rfl) ?_ | (refine s_cond rfl ⟨_, rfl, fun hb => ?_, fun hb => ?_⟩ <;> (have hc := hb; try simp only [go_sem] at hc)) | refine s_ret rfl ?_) | ((with_reducible refine Qb ?_ ?_); focus kernel_rfl) | ((with_reducible refine And.intro ?_ ?_); focus omega) | (refine contA_of hK ?_; clear hK K'; simp only [go_sem, *]) | (simp only [thenA, inBlockA, go_sem, *]))
     all_goals first | contradiction | omega | skip
     refine s_loop rfl (fun zn zN zenv zAs => ∃ (j : Nat) (acc : List Change), zn = (L.length) - j ∧ j ≤ (L.length) ∧ (acc ++ (canL p (L.drop j) ++ chFrom kk p (s + 1) ++ chK (6 - (m + 1)) p) = R) ∧ zN = 92 ∧ zenv = [(9, iV j), (6, .own 2 7 0 L.length), (5, iV s), (4, iV kk), (3, .own 1 7 0 acc.length), (1, .ptr 0 0)] ∧ zAs = [pBox p, .row 7 (acc.map Change.enc), .row 7 (L.map Change.enc)]) (L.length) ⟨[some 0, some 1, some 3], [], _, _, _, (by (simp only [Weak, go_sem, List.map_append, List.map_set, *] <;> (try simp (disch := omega) only [wrap_succ]) <;> (try simp) <;> (try omega))), 0, acc, (by simp), (by simp), (by exact hQ), rfl, rfl, rfl⟩ ?_; rintro _ _ _ _ ⟨j, acc, rfl, hj, hS2, rfl, rfl, rfl⟩
     clear hL
   all_goals
    clear hQ
    have hql := congrArg List.length hS2
    simp only [List.length_append] at hql
    by_cases hj : j < L.length
    ·have hj3 : (j : Int) < L.length := by omega
     have sc := sC (L.getD j default)
     by_cases q : can p (L.getD j default) = 0
     ·rw [canL_yes hj q] at hS2
      rw [q] at sc
      clear q
      repeat' (first | (with_reducible (show runOps ..); first | (refine Qr rfl ?_; try intro K' hK; try simp only [go_sem, *])) | (with_reducible (show Hold ..); first | refine Qh rfl ?_ | refine s_draw rfl Tryz.mixed (by kernel_rfl) ?_ | (refine s_cond rfl ⟨_, rfl, fun hb => ?_, fun hb => ?_⟩ <;> (have hc := hb; try simp only [go_sem] at hc)) | refine s_ret rfl ?_) | (with_reducible (show callA ..); first | (refine call_s (sc) ?_ ?_; (focus (simp only [go_sem, *]; done)); simp only [go_sem, *])) | ((with_reducible refine Qb ?_ ?_); focus kernel_rfl) | ((with_reducible refine And.intro ?_ ?_); focus omega) | (refine contA_of hK ?_; clear hK K'; simp only [go_sem, *]) | (simp only [thenA, inBlockA, go_sem, *]))
      all_goals first | contradiction | omega | skip
      refine ⟨_, (by omega), [some 0, some 4, some 2], [], _, _, _, (by (simp only [Weak, go_sem, List.map_append, List.map_set, *] <;> (try simp (disch := omega) only [wrap_succ]) <;> (try simp) <;> (try omega))), j + 1, acc ++ [L.getD j default], rfl, (by omega), (by rw [← hS2]; simp), rfl, rfl, rfl⟩
     ·have q' : (can p (L.getD j default) == 0) = false := by simpa using q
      rw [canL_no hj q] at hS2
      clear q
      repeat' (first | (with_reducible (show runOps ..); first | (refine Qr rfl ?_; try intro K' hK; try simp only [go_sem, *])) | (with_reducible (show Hold ..); first | refine Qh rfl ?_ | refine s_draw rfl Tryz.mixed (by kernel_rfl) ?_ | (refine s_cond rfl ⟨_, rfl, fun hb => ?_, fun hb => ?_⟩ <;> (have hc := hb; try simp only [go_sem] at hc)) | refine s_ret rfl ?_) | (with_reducible (show callA ..); first | (refine call_s (sc) ?_ ?_; (focus (simp only [go_sem, *]; done)); simp only [go_sem, *])) | ((with_reducible refine Qb ?_ ?_); focus kernel_rfl) | ((with_reducible refine And.intro ?_ ?_); focus omega) | (refine contA_of hK ?_; clear hK K'; simp only [go_sem, *]) | (simp only [thenA, inBlockA, go_sem, *]))
      all_goals first | contradiction | omega | skip
      refine ⟨_, (by omega), [some 0, some 1, some 2], [], _, _, _, (by (simp only [Weak, go_sem, List.map_append, List.map_set, *] <;> (try simp (disch := omega) only [wrap_succ]) <;> (try simp) <;> (try omega))), j + 1, acc, rfl, (by omega), (by exact hS2), rfl, rfl, rfl⟩
    ·have hj3 : ¬ (j : Int) < L.length := by omega
     rw [canL_end (by omega), List.nil_append] at hS2
     repeat' (first | (with_reducible (show runOps ..); first | (refine Qr rfl ?_; try intro K' hK; try simp only [go_sem, *])) | (with_reducible (show Hold ..); first | refine Qh rfl ?_ | refine s_draw rfl Tryz.mixed (by kernel_rfl) ?_ | (refine s_cond rfl ⟨_, rfl, fun hb => ?_, fun hb => ?_⟩ <;> (have hc := hb; try simp only [go_sem] at hc)) | refine s_ret rfl ?_) | ((with_reducible refine Qb ?_ ?_); focus kernel_rfl) | ((with_reducible refine And.intro ?_ ?_); focus omega) | (refine contA_of hK ?_; clear hK K'; simp only [go_sem, *]) | (simp only [thenA, inBlockA, go_sem, *]))
     all_goals first | contradiction | omega | skip
     refine ⟨_, (by omega), [some 0, some 1], [], _, _, _, (by (simp only [Weak, go_sem, List.map_append, List.map_set, *] <;> (try simp (disch := omega) only [wrap_succ]) <;> (try simp) <;> (try omega))), s + 1, acc, rfl, (by omega), (by simpa using hS2), rfl, rfl, rfl⟩
  ·have hs3 : ¬ (s : Int) < p.length := by omega
   rw [chFrom_end (by omega), List.nil_append] at hQ
   repeat' (first | (with_reducible (show runOps ..); first | (refine Qr rfl ?_; try intro K' hK; try simp only [go_sem, *])) | (with_reducible (show Hold ..); first | refine Qh rfl ?_ | refine s_draw rfl Tryz.mixed (by kernel_rfl) ?_ | (refine s_cond rfl ⟨_, rfl, fun hb => ?_, fun hb => ?_⟩ <;> (have hc := hb; try simp only [go_sem] at hc)) | refine s_ret rfl ?_) | ((with_reducible refine Qb ?_ ?_); focus kernel_rfl) | ((with_reducible refine And.intro ?_ ?_); focus omega) | (refine contA_of hK ?_; clear hK K'; simp only [go_sem, *]) | (simp only [thenA, inBlockA, go_sem, *]))
   all_goals first | contradiction | omega | skip
   refine ⟨_, (by omega), [some 0, some 1], [], _, _, _, (by (simp only [Weak, go_sem, List.map_append, List.map_set, *] <;> (try simp (disch := omega) only [wrap_succ]) <;> (try simp) <;> (try omega))), m + 1, acc, rfl, (by omega), (by exact hQ), rfl, rfl, rfl⟩
 ·have h6 : 6 - m = 0 := by omega
  rw [h6] at hP
  simp only [chK, List.append_nil] at hP
  subst hP
  clear hw
  have hm7 : ¬ ((m : Int) + 1 ≤ 6) := by omega
  repeat' (first | (with_reducible (show runOps ..); first | (refine Qr rfl ?_; try intro K' hK; try simp only [go_sem, *])) | (with_reducible (show Hold ..); first | refine Qh rfl ?_ | refine s_draw rfl Tryz.mixed (by kernel_rfl) ?_ | (refine s_cond rfl ⟨_, rfl, fun hb => ?_, fun hb => ?_⟩ <;> (have hc := hb; try simp only [go_sem] at hc)) | refine s_ret rfl ?_) | ((with_reducible refine Qb ?_ ?_); focus kernel_rfl) | ((with_reducible refine And.intro ?_ ?_); focus omega) | (refine contA_of hK ?_; clear hK K'; simp only [go_sem, *]) | (simp only [thenA, inBlockA, go_sem, *]))
  all_goals first | contradiction | omega | skip
  refine ⟨[_], [], [1], ⟨rfl, trivial⟩, ?_⟩
  simp only [go_sem, *]
theorem sp_rguess : ∀ (n : Nat), n ≤ 2 → ∀ (p q : Plan), Valid p → Spec Tryz.prog 97 [encPlan p, encPlan q, iV n] [] (.tup [.list ((optL (guessN n p q)).map Change.enc), bV (guessN n p q).isSome]) []
 | 0, _, p, q, v => by
  have e1 : (guessN 0 p q).isSome = decide (p = q) := by unfold guessN; split <;> simp [*]
  have e2 : optL (guessN 0 p q) = [] := by unfold guessN; split <;> rfl
  refine spec_body Tryz.func97 rfl (fun E hE => ?_); simp only [go_sem, Tryz.ntmps97]
  repeat' (first | (with_reducible (show runOps ..); first | (refine Qr rfl ?_; try intro K' hK; try simp only [go_sem, *])) | (with_reducible (show Hold ..); first | refine Qh rfl ?_ | refine s_draw rfl Tryz.mixed (by kernel_rfl) ?_ | (refine s_cond rfl ⟨_, rfl, fun hb => ?_, fun hb => ?_⟩ <;> (have hc := hb; try simp only [go_sem] at hc)) | refine s_ret rfl ?_) | (with_reducible (show callA ..); first | (refine call_s (sp_rSame p q (by have := v.len; omega) (fun l hl => by have := (v.rows l hl).len; omega)) ?_ ?_; (focus (simp only [go_sem, *]; done)); simp only [go_sem, *])) | ((with_reducible refine Qb ?_ ?_); focus kernel_rfl) | ((with_reducible refine And.intro ?_ ?_); focus omega) | (refine contA_of hK ?_; clear hK K'; simp only [go_sem, *]) | (simp only [thenA, inBlockA, go_sem, *]))
  all_goals first | contradiction | omega | skip
  (refine ⟨[_, _], [], [], ⟨rfl, rfl, trivial⟩, ?_⟩; simp only [go_sem, *])
 | n + 1, hn, p, q, v => by
  have IH := sp_rguess n (by omega)
  have hw : IntKind.i64.wrap (((n + 1 : Nat) : Int) - 1) = (n : Int) := by rw [wrap_i64 (by omega) (by omega)]; omega
  have hn0 : (((n + 1 : Nat) : Int) == 0) = false := by simp; omega
  have hLl := changesOf_len v
  have hLc := fun c hc => changesOf_can (p := p) (c := c) hc
  have sR := sp_rChanges p v
  have hG : guessN (n + 1) p q = firstSome (fun c => (guessN n (afterOf p c) q).map (c :: ·)) (changesOf p) := by rw [guessN]
  have hgl : ∀ x, ∀ l, guessN n x q = some l → l.length ≤ n := fun x l h => guessN_len h
  generalize guessN (n + 1) p q = G at *
  generalize changesOf p = L at *
  have hG0 : firstSome (fun c => (guessN n (afterOf p c) q).map (c :: ·)) (L.drop 0) = G := hG.symm
  clear hG
  refine spec_body Tryz.func97 rfl (fun E hE => ?_); simp only [go_sem, Tryz.ntmps97]
  repeat' (first | (with_reducible (show runOps ..); first | (refine Qr rfl ?_; try intro K' hK; try simp only [go_sem, *])) | (with_reducible (show Hold ..); first | refine Qh rfl ?_ | refine s_draw rfl Tryz.mixed (by kernel_rfl) ?_ | (refine s_cond rfl ⟨_, rfl, fun hb => ?_, fun hb => ?_⟩ <;> (have hc := hb; try simp only [go_sem] at hc)) | refine s_ret rfl ?_) | (with_reducible (show callA ..); first | (refine call_s (sR) ?_ ?_; (focus (simp only [go_sem, *]; done)); simp only [go_sem, *])) | ((with_reducible refine Qb ?_ ?_); focus kernel_rfl) | ((with_reducible refine And.intro ?_ ?_); focus omega) | (refine contA_of hK ?_; clear hK K'; simp only [go_sem, *]) | (simp only [thenA, inBlockA, go_sem, *]))
  all_goals first | contradiction | omega | skip
  refine s_loop rfl (fun zn zN zenv zAs => ∃ (i : Nat), zn = (L.length) - i ∧ i ≤ (L.length) ∧ (firstSome (fun c => (guessN n (afterOf p c) q).map (c :: ·)) (L.drop i) = G) ∧ zN = 46 ∧ zenv = [(9, iV i), (8, .list (L.map Change.enc)), (2, iV (n + 1 : Nat)), (3, .ptr 0 0), (4, .ptr 1 0)] ∧ zAs = [pBox p, pBox q]) (L.length) ⟨[some 0, some 1], [], _, _, _, (by (simp only [Weak, go_sem, List.map_append, List.map_set, *] <;> (try simp (disch := omega) only [wrap_succ]) <;> (try simp) <;> (try omega))), 0, (by simp), (by simp), (by exact hG0), rfl, rfl, rfl⟩ ?_; rintro _ _ _ _ ⟨i, rfl, hi, hP, rfl, rfl, rfl⟩
  clear hG0
  by_cases hi2 : i < L.length
  ·have hi3 : (i : Int) < L.length := by omega
   have hcan := hLc _ (getD_mem hi2)
   have f := Fit.of_can hcan
   have sm := sp_rMade p _ v f
   have sr := IH (afterOf p (L.getD i default)) q (valid_after v f)
   clear hcan IH hLc
   cases hgn : guessN n (afterOf p (L.getD i default)) q with
   | none =>
    rw [hgn] at sr
    have hP2 := first_no hi2 hP (by rw [hgn]; rfl)
    clear hP
    generalize afterOf p (L.getD i default) = x at *
    repeat' (first | (with_reducible (show runOps ..); first | (refine Qr rfl ?_; try intro K' hK; try simp only [go_sem, *])) | (with_reducible (show Hold ..); first | refine Qh rfl ?_ | refine s_draw rfl Tryz.mixed (by kernel_rfl) ?_ | (refine s_cond rfl ⟨_, rfl, fun hb => ?_, fun hb => ?_⟩ <;> (have hc := hb; try simp only [go_sem] at hc)) | refine s_ret rfl ?_) | (with_reducible (show callA ..); first | ((first | refine call_s (sm) ?_ ?_ | refine call_s (sr) ?_ ?_); (focus (simp only [go_sem, *]; done)); simp only [go_sem, *])) | ((with_reducible refine Qb ?_ ?_); focus kernel_rfl) | ((with_reducible refine And.intro ?_ ?_); focus omega) | (refine contA_of hK ?_; clear hK K'; simp only [go_sem, *]) | (simp only [thenA, inBlockA, go_sem, *]))
    all_goals first | contradiction | omega | skip
    refine ⟨_, (by omega), [some 0, some 1], [], _, _, _, (by (simp only [Weak, go_sem, List.map_append, List.map_set, *] <;> (try simp (disch := omega) only [wrap_succ]) <;> (try simp) <;> (try omega))), i + 1, rfl, (by omega), (by exact hP2), rfl, rfl, rfl⟩
   | some l =>
    rw [hgn] at sr
    have hP2 := first_yes hi2 hP (x := L.getD i default :: l) (by rw [hgn]; rfl)
    have hll := hgl _ _ hgn
    clear hP hgl hgn
    subst hP2
    generalize afterOf p (L.getD i default) = x at *
    repeat' (first | (with_reducible (show runOps ..); first | (refine Qr rfl ?_; try intro K' hK; try simp only [go_sem, *])) | (with_reducible (show Hold ..); first | refine Qh rfl ?_ | refine s_draw rfl Tryz.mixed (by kernel_rfl) ?_ | (refine s_cond rfl ⟨_, rfl, fun hb => ?_, fun hb => ?_⟩ <;> (have hc := hb; try simp only [go_sem] at hc)) | refine s_ret rfl ?_) | (with_reducible (show callA ..); first | ((first | refine call_s (sm) ?_ ?_ | refine call_s (sr) ?_ ?_); (focus (simp only [go_sem, *]; done)); simp only [go_sem, *])) | ((with_reducible refine Qb ?_ ?_); focus kernel_rfl) | ((with_reducible refine And.intro ?_ ?_); focus omega) | (refine contA_of hK ?_; clear hK K'; simp only [go_sem, *]) | (simp only [thenA, inBlockA, go_sem, *]))
    all_goals first | contradiction | skip
    refine ⟨fun y hy => ?_, fun y hy => ?_, by omega, Nat.le_trans (by omega) (by decide : 3 ≤ 9223372036854775807), ?_⟩
    ·obtain ⟨c, _, rfl⟩ := List.mem_map.1 hy
     simp [Change.enc, go_sem]
    ·obtain ⟨c, _, rfl⟩ := List.mem_map.1 hy
     simp [Change.enc, go_sem]
    ·repeat' (first | (with_reducible (show runOps ..); first | (refine Qr rfl ?_; try intro K' hK; try simp only [go_sem, *])) | (with_reducible (show Hold ..); first | refine Qh rfl ?_ | refine s_draw rfl Tryz.mixed (by kernel_rfl) ?_ | (refine s_cond rfl ⟨_, rfl, fun hb => ?_, fun hb => ?_⟩ <;> (have hc := hb; try simp only [go_sem] at hc)) | refine s_ret rfl ?_) | ((with_reducible refine Qb ?_ ?_); focus kernel_rfl) | ((with_reducible refine And.intro ?_ ?_); focus omega) | (refine contA_of hK ?_; clear hK K'; simp only [go_sem, *]) | (simp only [thenA, inBlockA, go_sem, *]))
     refine ⟨[_, _], [], [3], ⟨rfl, rfl, trivial⟩, ?_⟩
     simp only [go_sem, *]
     simp [Nat.add_comm, Change.enc, List.take_of_length_le]
  ·have hi3 : ¬ (i : Int) < L.length := by omega
   have hP2 := first_end (by omega) hP
   clear hP
   subst hP2
   repeat' (first | (with_reducible (show runOps ..); first | (refine Qr rfl ?_; try intro K' hK; try simp only [go_sem, *])) | (with_reducible (show Hold ..); first | refine Qh rfl ?_ | refine s_draw rfl Tryz.mixed (by kernel_rfl) ?_ | (refine s_cond rfl ⟨_, rfl, fun hb => ?_, fun hb => ?_⟩ <;> (have hc := hb; try simp only [go_sem] at hc)) | refine s_ret rfl ?_) | ((with_reducible refine Qb ?_ ?_); focus kernel_rfl) | ((with_reducible refine And.intro ?_ ?_); focus omega) | (refine contA_of hK ?_; clear hK K'; simp only [go_sem, *]) | (simp only [thenA, inBlockA, go_sem, *]))
   all_goals first | contradiction | omega | skip
   (refine ⟨[_, _], [], [], ⟨rfl, rfl, trivial⟩, ?_⟩; simp only [go_sem, *])
   all_goals simp
theorem sp_rGuess_found (p q : Plan) (v : Valid p) (w : Valid q) (h3 : p.length = q.length) (G : Option (List Change)) (hG : firstSome (fun n => guessN n p q) ([0, 1, 2].drop 0) = G) :
  Spec Tryz.prog 32 [encPlan p, encPlan q] [] (.tup [.list ((optL G).map Change.enc), iV (if G.isSome = true then 0 else 11)]) [] := by
 have s1 := sp_rCheck p (by have := v.len; omega)
 have s2 := sp_rCheck q (by have := w.len; omega)
 have s3 := fun n hn => sp_rguess n hn p q v
 rw [(check_zero p).2 v] at s1
 rw [(check_zero q).2 w] at s2
 have hq3 : ((p.length : Int) == (q.length : Int)) = true := by simp; omega
 clear v w
 refine spec_body Tryz.func32 rfl (fun E hE => ?_); simp only [go_sem, Tryz.ntmps32]
 repeat' (first | (with_reducible (show runOps ..); first | (refine Qr rfl ?_; try intro K' hK; try simp only [go_sem, *]) | (refine Qi rfl rfl rfl rfl (fun hb K' hK => ?_) (fun hb => ?_) <;> (have hc := hb; try simp only [go_sem] at hc; simp only [go_sem, *]))) | (with_reducible (show Hold ..); first | refine Qh rfl ?_ | (refine s_cond rfl ⟨_, rfl, fun hb => ?_, fun hb => ?_⟩ <;> (have hc := hb; try simp only [go_sem] at hc)) | refine s_ret rfl ?_) | (with_reducible (show callA ..); first | ((first | refine call_s (s1) ?_ ?_ | refine call_s (s2) ?_ ?_); (focus (simp only [go_sem, *]; done)); simp only [go_sem, *])) | ((with_reducible refine Qb ?_ ?_); focus kernel_rfl) | ((with_reducible refine And.intro ?_ ?_); focus omega) | (refine contA_of hK ?_; clear hK K'; simp only [go_sem, *]) | (simp only [thenA, inBlockA, go_sem, *]))
 all_goals first | contradiction | omega | skip
 refine s_loop rfl (fun zn zN zenv zAs => ∃ (i : Nat), zn = (3) - i ∧ i ≤ (3) ∧ (firstSome (fun n => guessN n p q) ([0, 1, 2].drop i) = G) ∧ zN = 43 ∧ zenv = [(8, iV i), (2, .ptr 0 0), (3, .ptr 1 0)] ∧ zAs = [pBox p, pBox q]) (3) ⟨[some 0, some 1], [], _, _, _, (by (simp only [Weak, go_sem, List.map_append, List.map_set, *] <;> (try simp (disch := omega) only [wrap_succ]) <;> (try simp) <;> (try omega))), 0, (by simp), (by simp), (by exact hG), rfl, rfl, rfl⟩ ?_; rintro _ _ _ _ ⟨i, rfl, hi, hP, rfl, rfl, rfl⟩
 clear hG
 by_cases hi2 : i < 3
 ·have s := s3 i (by omega)
  have hi3 : (i : Int) ≤ 2 := by omega
  have hd : ([0, 1, 2] : List Nat).drop i = i :: [0, 1, 2].drop (i + 1) := by
   match i, hi2 with
   | 0, _ => rfl
   | 1, _ => rfl
   | 2, _ => rfl
  rw [hd, firstSome] at hP
  clear hd s3
  cases hgn : guessN i p q with
  | none =>
   rw [hgn] at s hP
   simp only at hP
   repeat' (first | (with_reducible (show runOps ..); first | (refine Qr rfl ?_; try intro K' hK; try simp only [go_sem, *]) | (refine Qi rfl rfl rfl rfl (fun hb K' hK => ?_) (fun hb => ?_) <;> (have hc := hb; try simp only [go_sem] at hc; simp only [go_sem, *]))) | (with_reducible (show Hold ..); first | refine Qh rfl ?_ | (refine s_cond rfl ⟨_, rfl, fun hb => ?_, fun hb => ?_⟩ <;> (have hc := hb; try simp only [go_sem] at hc)) | refine s_ret rfl ?_) | (with_reducible (show callA ..); first | (refine call_s (s) ?_ ?_; (focus (simp only [go_sem, *]; done)); simp only [go_sem, *])) | ((with_reducible refine Qb ?_ ?_); focus kernel_rfl) | ((with_reducible refine And.intro ?_ ?_); focus omega) | (refine contA_of hK ?_; clear hK K'; simp only [go_sem, *]) | (simp only [thenA, inBlockA, go_sem, *]))
   all_goals first | contradiction | omega | skip
   refine ⟨_, (by omega), [some 0, some 1], [], _, _, _, (by (simp only [Weak, go_sem, List.map_append, List.map_set, *] <;> (try simp (disch := omega) only [wrap_succ]) <;> (try simp) <;> (try omega))), i + 1, rfl, (by omega), (by exact hP), rfl, rfl, rfl⟩
  | some l =>
   rw [hgn] at s hP
   simp only at hP
   subst hP
   clear hgn
   repeat' (first | (with_reducible (show runOps ..); first | (refine Qr rfl ?_; try intro K' hK; try simp only [go_sem, *]) | (refine Qi rfl rfl rfl rfl (fun hb K' hK => ?_) (fun hb => ?_) <;> (have hc := hb; try simp only [go_sem] at hc; simp only [go_sem, *]))) | (with_reducible (show Hold ..); first | refine Qh rfl ?_ | (refine s_cond rfl ⟨_, rfl, fun hb => ?_, fun hb => ?_⟩ <;> (have hc := hb; try simp only [go_sem] at hc)) | refine s_ret rfl ?_) | (with_reducible (show callA ..); first | (refine call_s (s) ?_ ?_; (focus (simp only [go_sem, *]; done)); simp only [go_sem, *])) | ((with_reducible refine Qb ?_ ?_); focus kernel_rfl) | ((with_reducible refine And.intro ?_ ?_); focus omega) | (refine contA_of hK ?_; clear hK K'; simp only [go_sem, *]) | (simp only [thenA, inBlockA, go_sem, *]))
   all_goals first | contradiction | omega | skip
   (refine ⟨[_, _], [], [], ⟨rfl, rfl, trivial⟩, ?_⟩; simp only [go_sem, *])
   all_goals simp
 ·have hi3 : ¬ (i : Int) ≤ 2 := by omega
  rw [show ([0, 1, 2] : List Nat).drop i = [] from List.drop_of_length_le (by simp; omega), firstSome] at hP
  subst hP
  clear s3
  repeat' (first | (with_reducible (show runOps ..); first | (refine Qr rfl ?_; try intro K' hK; try simp only [go_sem, *]) | (refine Qi rfl rfl rfl rfl (fun hb K' hK => ?_) (fun hb => ?_) <;> (have hc := hb; try simp only [go_sem] at hc; simp only [go_sem, *]))) | (with_reducible (show Hold ..); first | refine Qh rfl ?_ | (refine s_cond rfl ⟨_, rfl, fun hb => ?_, fun hb => ?_⟩ <;> (have hc := hb; try simp only [go_sem] at hc)) | refine s_ret rfl ?_) | ((with_reducible refine Qb ?_ ?_); focus kernel_rfl) | ((with_reducible refine And.intro ?_ ?_); focus omega) | (refine contA_of hK ?_; clear hK K'; simp only [go_sem, *]) | (simp only [thenA, inBlockA, go_sem, *]))
  all_goals first | contradiction | omega | skip
  (refine ⟨[_, _], [], [], ⟨rfl, rfl, trivial⟩, ?_⟩; simp only [go_sem, *])
  all_goals simp
theorem sp_rGuess (p q : Plan) (hp : p.length ≤ 4294967296) (hq : q.length ≤ 4294967296) :
  Spec Tryz.prog 32 [encPlan p, encPlan q] [] (.tup [.list ((optL (if guessErr p q = 0 then guessOf p q else none)).map Change.enc), iV (guessErr p q)]) [] := by
 have s1 := sp_rCheck p hp
 have s2 := sp_rCheck q hq
 by_cases h1 : check p = 0
 ·by_cases h2 : check q = 0
  ·have v := (check_zero p).1 h1
   have w := (check_zero q).1 h2
   by_cases h3 : p.length = q.length
   ·have s := sp_rGuess_found p q v w h3 (guessOf p q) rfl
    have e : guessErr p q = if (guessOf p q).isSome = true then 0 else 11 := by simp [guessErr, h1, h2, h3]
    rw [e]
    cases hg : guessOf p q with
    | none => rw [hg] at s; simpa using s
    | some l => rw [hg] at s; simpa using s
   ·have e : guessErr p q = 11 := by simp [guessErr, h1, h2, h3]
    rw [h1] at s1
    rw [h2] at s2
    rw [e, if_neg (by decide)]
    have h4 : ((p.length : Int) == (q.length : Int)) = false := by simp; omega
    clear h1 h2 v w e
    refine spec_body Tryz.func32 rfl (fun E hE => ?_); simp only [go_sem, Tryz.ntmps32]
    repeat' (first | (with_reducible (show runOps ..); first | (refine Qr rfl ?_; try intro K' hK; try simp only [go_sem, *]) | (refine Qi rfl rfl rfl rfl (fun hb K' hK => ?_) (fun hb => ?_) <;> (have hc := hb; try simp only [go_sem] at hc; simp only [go_sem, *]))) | (with_reducible (show Hold ..); first | refine Qh rfl ?_ | (refine s_cond rfl ⟨_, rfl, fun hb => ?_, fun hb => ?_⟩ <;> (have hc := hb; try simp only [go_sem] at hc)) | refine s_ret rfl ?_) | (with_reducible (show callA ..); first | ((first | refine call_s (s1) ?_ ?_ | refine call_s (s2) ?_ ?_); (focus (simp only [go_sem, *]; done)); simp only [go_sem, *])) | ((with_reducible refine Qb ?_ ?_); focus kernel_rfl) | ((with_reducible refine And.intro ?_ ?_); focus omega) | (refine contA_of hK ?_; clear hK K'; simp only [go_sem, *]) | (simp only [thenA, inBlockA, go_sem, *]))
    all_goals first | contradiction | skip
    refine s_loop rfl (fun zn zN zenv zAs => ∃ (i : Nat), zn = (1) - i ∧ i ≤ (1) ∧ (i = 0) ∧ zN = 43 ∧ zenv = [(8, iV i), (2, .ptr 0 0), (3, .ptr 1 0)] ∧ zAs = [pBox p, pBox q]) (1) ⟨[some 0, some 1], [], _, _, _, (by (simp only [Weak, go_sem, List.map_append, List.map_set, *] <;> (try simp (disch := omega) only [wrap_succ]) <;> (try simp) <;> (try omega))), 0, (by simp), (by simp), (by rfl), rfl, rfl, rfl⟩ ?_; rintro _ _ _ _ ⟨i, rfl, hi, hP, rfl, rfl, rfl⟩
    subst hP
    have h5 : ((0 : Nat) : Int) ≤ 2 := by omega
    have h6 : (0 : Int) ≤ 2 := by omega
    repeat' (first | (with_reducible (show runOps ..); first | (refine Qr rfl ?_; try intro K' hK; try simp only [go_sem, *]) | (refine Qi rfl rfl rfl rfl (fun hb K' hK => ?_) (fun hb => ?_) <;> (have hc := hb; try simp only [go_sem] at hc; simp only [go_sem, *]))) | (with_reducible (show Hold ..); first | refine Qh rfl ?_ | (refine s_cond rfl ⟨_, rfl, fun hb => ?_, fun hb => ?_⟩ <;> (have hc := hb; try simp only [go_sem] at hc)) | refine s_ret rfl ?_) | ((with_reducible refine Qb ?_ ?_); focus kernel_rfl) | ((with_reducible refine And.intro ?_ ?_); focus omega) | (refine contA_of hK ?_; clear hK K'; simp only [go_sem, *]) | (simp only [thenA, inBlockA, go_sem, *]))
    all_goals first | contradiction | omega | skip
    (refine ⟨[_, _], [], [], ⟨rfl, rfl, trivial⟩, ?_⟩; simp only [go_sem, *])
  ·have e : guessErr p q = check q := by simp [guessErr, h1, h2]
   rw [h1] at s1
   rw [e, if_neg h2]
   have h5 : (check q != 0) = true := by simpa using h2
   clear h1 e h2
   generalize check q = k at *
   refine spec_body Tryz.func32 rfl (fun E hE => ?_); simp only [go_sem, Tryz.ntmps32]
   repeat' (first | (with_reducible (show runOps ..); first | (refine Qr rfl ?_; try intro K' hK; try simp only [go_sem, *]) | (refine Qi rfl rfl rfl rfl (fun hb K' hK => ?_) (fun hb => ?_) <;> (have hc := hb; try simp only [go_sem] at hc; simp only [go_sem, *]))) | (with_reducible (show Hold ..); first | refine Qh rfl ?_ | (refine s_cond rfl ⟨_, rfl, fun hb => ?_, fun hb => ?_⟩ <;> (have hc := hb; try simp only [go_sem] at hc)) | refine s_ret rfl ?_) | (with_reducible (show callA ..); first | ((first | refine call_s (s1) ?_ ?_ | refine call_s (s2) ?_ ?_); (focus (simp only [go_sem, *]; done)); simp only [go_sem, *])) | ((with_reducible refine Qb ?_ ?_); focus kernel_rfl) | ((with_reducible refine And.intro ?_ ?_); focus omega) | (refine contA_of hK ?_; clear hK K'; simp only [go_sem, *]) | (simp only [thenA, inBlockA, go_sem, *]))
   all_goals first | contradiction | skip
   all_goals (refine ⟨[_, _], [], [], ⟨rfl, rfl, trivial⟩, ?_⟩; simp only [go_sem, *])
 ·have e : guessErr p q = check p := by simp [guessErr, h1]
  rw [e, if_neg h1]
  have h5 : (check p != 0) = true := by simpa using h1
  clear e h1 s2
  generalize check p = k at *
  refine spec_body Tryz.func32 rfl (fun E hE => ?_); simp only [go_sem, Tryz.ntmps32]
  repeat' (first | (with_reducible (show runOps ..); first | (refine Qr rfl ?_; try intro K' hK; try simp only [go_sem, *]) | (refine Qi rfl rfl rfl rfl (fun hb K' hK => ?_) (fun hb => ?_) <;> (have hc := hb; try simp only [go_sem] at hc; simp only [go_sem, *]))) | (with_reducible (show Hold ..); first | refine Qh rfl ?_ | (refine s_cond rfl ⟨_, rfl, fun hb => ?_, fun hb => ?_⟩ <;> (have hc := hb; try simp only [go_sem] at hc)) | refine s_ret rfl ?_) | (with_reducible (show callA ..); first | (refine call_s (s1) ?_ ?_; (focus (simp only [go_sem, *]; done)); simp only [go_sem, *])) | ((with_reducible refine Qb ?_ ?_); focus kernel_rfl) | ((with_reducible refine And.intro ?_ ?_); focus omega) | (refine contA_of hK ?_; clear hK K'; simp only [go_sem, *]) | (simp only [thenA, inBlockA, go_sem, *]))
  all_goals first | contradiction | skip
  all_goals (refine ⟨[_, _], [], [], ⟨rfl, rfl, trivial⟩, ?_⟩; simp only [go_sem, *])
end Go.Abs

namespace Go.Abs
open Go Go.Proofs
set_option maxRecDepth 10000
set_option maxHeartbeats 4000000
theorem wide_no {p : Plan} (h : wideB p = false) : p.length ≤ 20 ∧ ∀ l, l ∈ p → l.length ≤ 20 := by
 unfold wideB wideL at h
 rw [Bool.or_eq_false_iff, List.any_eq_false] at h
 refine ⟨by simpa using h.1, fun l hl => ?_⟩
 have := h.2 l hl
 simpa using this
def aftX (p : Plan) (c : Change) : Plan := if errOf p c = 0 then afterOf p c else []
end Go.Abs

namespace Go.Abs
open Go Go.Proofs
set_option maxRecDepth 10000
set_option maxHeartbeats 4000000
def GuP (p q : Plan) (dd : Dice) : Prop := Valid q ∧ q.length = p.length ∧ dd.list.length ≤ 4294967296
end Go.Abs

namespace Go.Abs
open Go Go.Proofs
set_option maxRecDepth 10000
set_option maxHeartbeats 4000000
theorem guess_len {p q : Plan} {l : List Change} (h : (if guessErr p q = 0 then guessOf p q else none) = some l) : l.length ≤ 4294967296 := by
 split at h
 ·unfold guessOf at h
  obtain ⟨n, hn, e⟩ := firstSome_in h
  have := guessN_len e
  have : n ≤ 2 := by simp at hn; omega
  omega
 ·cases h
theorem sp_StreetGuesses (p q : Plan) (nums : List Int) (hb : PlanB 1048576 p) (hb2 : PlanB 1048576 q) (h : nums.length ≤ 1048576) : Spec Tryz.prog 4 [encPlan p, encPlan q, encInts nums] [] (bV true) [] := by
 have sw := sp_walking
 have s0 := sp_wide p (by have := hb.len; omega) (wideB p) rfl
 have s00 := sp_wide q (by have := hb2.len; omega) (wideB q) rfl
 clear hb hb2
 by_cases hwd : wideB p = true
 ·rw [hwd] at s0
  clear hwd
  refine spec_body Tryz.func4 rfl (fun E hE => ?_); simp only [go_sem, Tryz.ntmps4]
  repeat' (first | (with_reducible (show runOps ..); first | (refine Qr rfl ?_; try intro K' hK; try simp only [go_sem, *]) | (refine Qi rfl rfl rfl rfl (fun hb K' hK => ?_) (fun hb => ?_) <;> (have hc := hb; try simp only [go_sem] at hc; simp only [go_sem, *]))) | (with_reducible (show Hold ..); first | refine Qh rfl ?_ | refine s_draw rfl Tryz.mixed (by kernel_rfl) ?_ | (refine s_cond rfl ⟨_, rfl, fun hb => ?_, fun hb => ?_⟩ <;> (have hc := hb; try simp only [go_sem] at hc)) | refine s_ret rfl ?_) | (with_reducible (show callA ..); first | ((first | refine call_s (s0) ?_ ?_ | refine call_s (sw) ?_ ?_); (focus (simp only [go_sem, *]; done)); simp only [go_sem, *])) | ((with_reducible refine Qb ?_ ?_); focus kernel_rfl) | ((with_reducible refine And.intro ?_ ?_); focus omega) | (refine contA_of hK ?_; clear hK K'; simp only [go_sem, *]) | (simp only [thenA, inBlockA, go_sem, *]))
  all_goals first | contradiction | skip
  (refine ⟨[_], [], [], ⟨rfl, trivial⟩, ?_⟩; simp only [go_sem, *])
 have hwd : wideB p = false := by simpa using hwd
 by_cases hwq : wideB q = true
 ·rw [hwd] at s0
  rw [hwq] at s00
  clear hwd hwq
  refine spec_body Tryz.func4 rfl (fun E hE => ?_); simp only [go_sem, Tryz.ntmps4]
  repeat' (first | (with_reducible (show runOps ..); first | (refine Qr rfl ?_; try intro K' hK; try simp only [go_sem, *]) | (refine Qi rfl rfl rfl rfl (fun hb K' hK => ?_) (fun hb => ?_) <;> (have hc := hb; try simp only [go_sem] at hc; simp only [go_sem, *]))) | (with_reducible (show Hold ..); first | refine Qh rfl ?_ | refine s_draw rfl Tryz.mixed (by kernel_rfl) ?_ | (refine s_cond rfl ⟨_, rfl, fun hb => ?_, fun hb => ?_⟩ <;> (have hc := hb; try simp only [go_sem] at hc)) | refine s_ret rfl ?_) | (with_reducible (show callA ..); first | ((first | refine call_s (s0) ?_ ?_ | refine call_s (sw) ?_ ?_); (focus (simp only [go_sem, *]; done)); simp only [go_sem, *]) | (refine call_s (s00) ?_ ?_; (focus (simp only [go_sem, *]; done)); simp only [go_sem, *])) | ((with_reducible refine Qb ?_ ?_); focus kernel_rfl) | ((with_reducible refine And.intro ?_ ?_); focus omega) | (refine contA_of hK ?_; clear hK K'; simp only [go_sem, *]) | (simp only [thenA, inBlockA, go_sem, *]))
  all_goals first | contradiction | skip
  (refine ⟨[_], [], [], ⟨rfl, trivial⟩, ?_⟩; simp only [go_sem, *])
 have hwq : wideB q = false := by simpa using hwq
 rw [hwd] at s0
 rw [hwq] at s00
 obtain ⟨q1, q2⟩ := wide_no hwd
 obtain ⟨r1, r2⟩ := wide_no hwq
 clear hwd hwq
 have s1 := sp_NewDice nums
 have s2 := sp_PlanOf (newDice nums) 4 (show nums.length ≤ 4294967296 by omega) (by omega)
 have v := planOf_ok (d := newDice nums) (houses := 4) (by omega)
 have hdl : (planOf (newDice nums) 4).2.list.length ≤ 4294967296 := by rw [planOf_list]; show nums.length ≤ _; omega
 generalize planOf (newDice nums) 4 = P at *
 obtain ⟨m, d1⟩ := P
 simp only at s2 v hdl
 have hm3 := v.len
 have s3 := sp_To d1 2 hdl (by omega)
 have hr := toN_le (n := 2) (by omega) d1
 have hdl2 : (toD 2 d1).list.length ≤ 4294967296 := by rw [toD_list]; exact hdl
 obtain ⟨n, hn⟩ : ∃ n : Nat, toN 2 d1 = n := ⟨(toN 2 d1).toNat, by omega⟩
 rw [hn] at hr s3
 clear hn h
 generalize toD 2 d1 = d2 at *
 have h0 : GuP m m d2 := ⟨v, rfl, hdl2⟩
 clear hdl hdl2
 refine spec_body Tryz.func4 rfl (fun E hE => ?_); simp only [go_sem, Tryz.ntmps4]
 repeat' (first | (with_reducible (show runOps ..); first | (refine Qr rfl ?_; try intro K' hK; try simp only [go_sem, *]) | (refine Qi rfl rfl rfl rfl (fun hb K' hK => ?_) (fun hb => ?_) <;> (have hc := hb; try simp only [go_sem] at hc; simp only [go_sem, *]))) | (with_reducible (show Hold ..); first | refine Qh rfl ?_ | refine s_draw rfl Tryz.mixed (by kernel_rfl) ?_ | (refine s_cond rfl ⟨_, rfl, fun hb => ?_, fun hb => ?_⟩ <;> (have hc := hb; try simp only [go_sem] at hc)) | refine s_ret rfl ?_) | (with_reducible (show callA ..); first | (refine call_s (s0) ?_ ?_; (focus (simp only [go_sem, *]; done)); simp only [go_sem, *]) | (refine call_s (s00) ?_ ?_; (focus (simp only [go_sem, *]; done)); simp only [go_sem, *]) | (refine call_n (s1) ?_ ?_ ?_ ?_; (focus (simp only [go_sem, *]; done)); (focus (first | (simp; done) | (simp [go_sem]; done))); (focus (first | (simp; done) | (simp [go_sem]; done))); simp only [go_sem, *]) | (refine call_of [2] [] (s2) (by simp) ?_ ?_ (by simp) (.inl rfl) ?_ ?_ ?_; (focus (simp only [go_sem, *]; done)); (focus (simp only [go_sem, *]; done)); (focus (first | (simp; done) | (simp [go_sem]; done))); (focus (first | (simp; done) | (simp [go_sem]; done))); simp only [go_sem, *]) | (refine call_of [2] [] (s3) (by simp) ?_ ?_ (by simp) (.inl rfl) ?_ ?_ ?_; (focus (simp only [go_sem, *]; done)); (focus (simp only [go_sem, *]; done)); (focus (first | (simp; done) | (simp [go_sem]; done))); (focus (first | (simp; done) | (simp [go_sem]; done))); simp only [go_sem, *])) | ((with_reducible refine Qb ?_ ?_); focus kernel_rfl) | ((with_reducible refine And.intro ?_ ?_); focus omega) | (refine contA_of hK ?_; clear hK K'; simp only [go_sem, *]) | (simp only [thenA, inBlockA, go_sem, *]))
 all_goals first | contradiction | skip
 clear s0 s00 s1 s2 s3
 refine s_loop rfl (fun zn zN zenv zAs => ∃ (i : Nat) (dd : Dice) (x : Plan), zn = (n) - i ∧ i ≤ (n) ∧ (GuP m x dd) ∧ zN = 121 ∧ zenv = [(10, iV ((n - i : Nat) : Int)), (9, .ptr 4 0), (8, .ptr 3 0), (7, .ptr 2 0), (4, .ptr 1 0), (3, .ptr 0 0)] ∧ zAs = [pBox p, pBox q, diceBox dd, pBox m, pBox x]) (n) ⟨[some 0, some 1, some 2, some 3, some 4], [], _, _, _, (by (simp only [Weak, go_sem, List.map_append, List.map_set, *] <;> (try simp (disch := omega) only [wrap_succ]) <;> (try simp) <;> (try omega))), 0, d2, m, (by simp), (by simp), (by exact h0), rfl, rfl, rfl⟩ ?_; rintro _ _ _ _ ⟨i, dd, x, rfl, hi, hP, rfl, rfl, rfl⟩
 clear h0
 obtain ⟨vx, hxl, hdd⟩ := hP
 by_cases hi2 : i < n
 ·obtain ⟨k, hk⟩ : ∃ k, n - i = k + 1 := ⟨n - i - 1, by omega⟩
  have hk2 : n - (i + 1) = k := by omega
  rw [hk]
  have hw1 : IntKind.i64.wrap (((k + 1 : Nat) : Int) - 1) = (k : Int) := by rw [wrap_i64 (by omega) (by omega)]; omega
  have hgt : ((k + 1 : Nat) : Int) > 0 := by omega
  have sC := sp_ChangeOf dd x hdd vx
  have hdd2 : (changeOf dd x).2.list.length ≤ 4294967296 := by rw [changeOf_list]; exact hdd
  generalize changeOf dd x = C at *
  obtain ⟨c, d3⟩ := C
  simp only at sC hdd2
  have sA := sp_rAfter x c (by omega)
  by_cases e : errOf x c = 0
  ·rw [if_pos e, e] at sA
   obtain ⟨_, f⟩ := err_zero e
   have vy := valid_after vx f
   have hy : (afterOf x c).length = x.length := laid_length _ _
   generalize afterOf x c = y at *
   have hG : GuP m y d3 := ⟨vy, by omega, hdd2⟩
   clear e f hy hxl
   repeat' (first | (with_reducible (show runOps ..); first | (refine Qr rfl ?_; try intro K' hK; try simp only [go_sem, *]) | (refine Qi rfl rfl rfl rfl (fun hb K' hK => ?_) (fun hb => ?_) <;> (have hc := hb; try simp only [go_sem] at hc; simp only [go_sem, *]))) | (with_reducible (show Hold ..); first | refine Qh rfl ?_ | refine s_draw rfl Tryz.mixed (by kernel_rfl) ?_ | (refine s_cond rfl ⟨_, rfl, fun hb => ?_, fun hb => ?_⟩ <;> (have hc := hb; try simp only [go_sem] at hc)) | refine s_ret rfl ?_) | (with_reducible (show callA ..); first | (refine call_of [2] [] (sC) (by simp) ?_ ?_ (by simp) (.inl rfl) ?_ ?_ ?_; (focus (simp only [go_sem, *]; done)); (focus (simp only [go_sem, *]; done)); (focus (first | (simp; done) | (simp [go_sem]; done))); (focus (first | (simp; done) | (simp [go_sem]; done))); simp only [go_sem, *]) | (refine call_s (sA) ?_ ?_; (focus (simp only [go_sem, *]; done)); simp only [go_sem, *])) | ((with_reducible refine Qb ?_ ?_); focus kernel_rfl) | ((with_reducible refine And.intro ?_ ?_); focus omega) | (refine contA_of hK ?_; clear hK K'; simp only [go_sem, *]) | (simp only [thenA, inBlockA, go_sem, *]))
   all_goals first | contradiction | skip
   refine ⟨_, (by omega), [some 0, some 1, some 2, some 3, some 4], [], _, _, _, (by (simp only [Weak, go_sem, List.map_append, List.map_set, *] <;> (try simp (disch := omega) only [wrap_succ]) <;> (try simp) <;> (try omega))), i + 1, d3, y, rfl, (by omega), (by exact hG), rfl, rfl, rfl⟩
  ·rw [if_neg e] at sA
   have e2 : (errOf x c == 0) = false := by simpa using e
   have hG : GuP m x d3 := ⟨vx, hxl, hdd2⟩
   generalize errOf x c = er at *
   repeat' (first | (with_reducible (show runOps ..); first | (refine Qr rfl ?_; try intro K' hK; try simp only [go_sem, *]) | (refine Qi rfl rfl rfl rfl (fun hb K' hK => ?_) (fun hb => ?_) <;> (have hc := hb; try simp only [go_sem] at hc; simp only [go_sem, *]))) | (with_reducible (show Hold ..); first | refine Qh rfl ?_ | refine s_draw rfl Tryz.mixed (by kernel_rfl) ?_ | (refine s_cond rfl ⟨_, rfl, fun hb => ?_, fun hb => ?_⟩ <;> (have hc := hb; try simp only [go_sem] at hc)) | refine s_ret rfl ?_) | (with_reducible (show callA ..); first | (refine call_of [2] [] (sC) (by simp) ?_ ?_ (by simp) (.inl rfl) ?_ ?_ ?_; (focus (simp only [go_sem, *]; done)); (focus (simp only [go_sem, *]; done)); (focus (first | (simp; done) | (simp [go_sem]; done))); (focus (first | (simp; done) | (simp [go_sem]; done))); simp only [go_sem, *]) | (refine call_s (sA) ?_ ?_; (focus (simp only [go_sem, *]; done)); simp only [go_sem, *])) | ((with_reducible refine Qb ?_ ?_); focus kernel_rfl) | ((with_reducible refine And.intro ?_ ?_); focus omega) | (refine contA_of hK ?_; clear hK K'; simp only [go_sem, *]) | (simp only [thenA, inBlockA, go_sem, *]))
   all_goals first | contradiction | skip
   refine ⟨_, (by omega), [some 0, some 1, some 2, some 3, some 4], [], _, _, _, (by (simp only [Weak, go_sem, List.map_append, List.map_set, *] <;> (try simp (disch := omega) only [wrap_succ]) <;> (try simp) <;> (try omega))), i + 1, d3, x, rfl, (by omega), (by exact hG), rfl, rfl, rfl⟩
 ·have hk2 : n - i = 0 := by omega
  rw [hk2]
  have hm1 : m.length ≤ 20 ∧ ∀ l, l ∈ m → l.length ≤ 20 := ⟨by omega, fun l hl => by have := (v.rows l hl).len; omega⟩
  have hx1 : x.length ≤ 20 ∧ ∀ l, l ∈ x → l.length ≤ 20 := ⟨by omega, fun l hl => by have := (vx.rows l hl).len; omega⟩
  obtain ⟨PS, hPS⟩ : ∃ PS : List Plan, PS = [p, m, m] := ⟨_, rfl⟩
  obtain ⟨QS, hQS⟩ : ∃ QS : List Plan, QS = [q, x, q] := ⟨_, rfl⟩
  have hPl : PS.length = 3 := by rw [hPS]; rfl
  have hQl : QS.length = 3 := by rw [hQS]; rfl
  have hPa : ∀ x, x ∈ PS → x.length ≤ 20 ∧ ∀ l, l ∈ x → l.length ≤ 20 := fun y hy => by
   rw [hPS] at hy
   simp only [List.mem_cons, List.not_mem_nil, or_false] at hy
   rcases hy with rfl | rfl | rfl
   ·exact ⟨q1, q2⟩
   ·exact hm1
   ·exact hm1
  have hQa : ∀ x, x ∈ QS → x.length ≤ 20 ∧ ∀ l, l ∈ x → l.length ≤ 20 := fun y hy => by
   rw [hQS] at hy
   simp only [List.mem_cons, List.not_mem_nil, or_false] at hy
   rcases hy with rfl | rfl | rfl
   ·exact ⟨r1, r2⟩
   ·exact hx1
   ·exact ⟨r1, r2⟩
  clear q1 q2 r1 r2 hm1 hx1 v vx
  repeat' (first | (with_reducible (show runOps ..); first | (refine Qr rfl ?_; try intro K' hK; try simp only [go_sem, *]) | (refine Qi rfl rfl rfl rfl (fun hb K' hK => ?_) (fun hb => ?_) <;> (have hc := hb; try simp only [go_sem] at hc; simp only [go_sem, *]))) | (with_reducible (show Hold ..); first | refine Qh rfl ?_ | refine s_draw rfl Tryz.mixed (by kernel_rfl) ?_ | (refine s_cond rfl ⟨_, rfl, fun hb => ?_, fun hb => ?_⟩ <;> (have hc := hb; try simp only [go_sem] at hc)) | refine s_ret rfl ?_) | ((with_reducible refine Qb ?_ ?_); focus kernel_rfl) | ((with_reducible refine And.intro ?_ ?_); focus omega) | (refine contA_of hK ?_; clear hK K'; simp only [go_sem, *]) | (simp only [thenA, inBlockA, go_sem, *]))
  all_goals first | contradiction | skip
  refine s_loop rfl (fun zn zN zenv zAs => ∃ (j : Nat), zn = (3) - j ∧ j ≤ (3) ∧ (NoP j) ∧ zN = 121 ∧ zenv = [(15, iV j), (14, .list (QS.map encPlan)), (13, .list (PS.map encPlan))] ∧ zAs = []) (3) ⟨[], [5, 6], _, _, _, (by (simp only [Weak, go_sem, List.map_append, List.map_set, *] <;> (try simp (disch := omega) only [wrap_succ]) <;> (try simp) <;> (try omega))), 0, (by simp), (by simp), (by trivial), rfl, rfl, rfl⟩ ?_; rintro _ _ _ _ ⟨j, rfl, hj, hQ, rfl, rfl, rfl⟩
  clear hPS hQS
  by_cases hj : j < 3
  ·have hj3 : (j : Int) < 3 := by omega
   obtain ⟨q1, q2⟩ := hPa _ (getD_mem (l := PS) (i := j) (by omega))
   obtain ⟨r1, r2⟩ := hQa _ (getD_mem (l := QS) (i := j) (by omega))
   have sU := sp_DupPlan (PS.getD j default) (by omega) (fun l hl => by have := q2 l hl; omega)
   have sV := sp_DupPlan (QS.getD j default) (by omega) (fun l hl => by have := r2 l hl; omega)
   have sG := sp_Guess (PS.getD j default) (QS.getD j default) (by omega) (by omega)
   have sH := sp_rGuess (PS.getD j default) (QS.getD j default) (by omega) (by omega)
   have sE1 := sp_EqPlans (PS.getD j default) (PS.getD j default) (by omega) (fun l hl => by have := q2 l hl; omega)
   have sE2 := sp_EqPlans (QS.getD j default) (QS.getD j default) (by omega) (fun l hl => by have := r2 l hl; omega)
   obtain ⟨R, hR⟩ : ∃ R, R = optL (if guessErr (PS.getD j default) (QS.getD j default) = 0 then guessOf (PS.getD j default) (QS.getD j default) else none) := ⟨_, rfl⟩
   have hRl : R.length ≤ 4294967296 := by
    rw [hR]
    cases e : (if guessErr (PS.getD j default) (QS.getD j default) = 0 then guessOf (PS.getD j default) (QS.getD j default) else none) with
    | none => simp [optL]
    | some l => exact guess_len e
   rw [← hR] at sG sH
   have sQ := sp_EqChanges R R hRl
   simp only [decide_true] at sE1 sE2 sQ
   generalize guessErr (PS.getD j default) (QS.getD j default) = er at *
   have ee : (er != er) = false := by simp
   clear q1 q2 r1 r2 hPa hQa hR
   repeat' (first | (with_reducible (show runOps ..); first | (refine Qr rfl ?_; try intro K' hK; try simp only [go_sem, *]) | (refine Qi rfl rfl rfl rfl (fun hb K' hK => ?_) (fun hb => ?_) <;> (have hc := hb; try simp only [go_sem] at hc; simp only [go_sem, *]))) | (with_reducible (show Hold ..); first | refine Qh rfl ?_ | refine s_draw rfl Tryz.mixed (by kernel_rfl) ?_ | (refine s_cond rfl ⟨_, rfl, fun hb => ?_, fun hb => ?_⟩ <;> (have hc := hb; try simp only [go_sem] at hc)) | refine s_ret rfl ?_) | (with_reducible (show callA ..); first | ((first | refine call_s (sU) ?_ ?_ | refine call_s (sG) ?_ ?_ | refine call_s (sH) ?_ ?_ | refine call_s (sQ) ?_ ?_ | refine call_s (sE1) ?_ ?_); (focus (simp only [go_sem, *]; done)); simp only [go_sem, *]) | (refine call_s (sV) ?_ ?_; (focus (simp only [go_sem, *]; done)); simp only [go_sem, *]) | (refine call_s (sE2) ?_ ?_; (focus (simp only [go_sem, *]; done)); simp only [go_sem, *])) | ((with_reducible refine Qb ?_ ?_); focus kernel_rfl) | ((with_reducible refine And.intro ?_ ?_); focus omega) | (refine contA_of hK ?_; clear hK K'; simp only [go_sem, *]) | (simp only [thenA, inBlockA, go_sem, *]))
   all_goals first | contradiction | skip
   refine ⟨_, (by omega), [], [], _, _, _, (by (simp only [Weak, go_sem, List.map_append, List.map_set, *] <;> (try simp (disch := omega) only [wrap_succ]) <;> (try simp) <;> (try omega))), j + 1, rfl, (by omega), (by trivial), rfl, rfl, rfl⟩
  ·have hj3 : ¬ (j : Int) < 3 := by omega
   repeat' (first | (with_reducible (show runOps ..); first | (refine Qr rfl ?_; try intro K' hK; try simp only [go_sem, *]) | (refine Qi rfl rfl rfl rfl (fun hb K' hK => ?_) (fun hb => ?_) <;> (have hc := hb; try simp only [go_sem] at hc; simp only [go_sem, *]))) | (with_reducible (show Hold ..); first | refine Qh rfl ?_ | refine s_draw rfl Tryz.mixed (by kernel_rfl) ?_ | (refine s_cond rfl ⟨_, rfl, fun hb => ?_, fun hb => ?_⟩ <;> (have hc := hb; try simp only [go_sem] at hc)) | refine s_ret rfl ?_) | (with_reducible (show callA ..); first | (refine call_s (sw) ?_ ?_; (focus (simp only [go_sem, *]; done)); simp only [go_sem, *])) | ((with_reducible refine Qb ?_ ?_); focus kernel_rfl) | ((with_reducible refine And.intro ?_ ?_); focus omega) | (refine contA_of hK ?_; clear hK K'; simp only [go_sem, *]) | (simp only [thenA, inBlockA, go_sem, *]))
   all_goals first | contradiction | skip
   (refine ⟨[_], [], [], ⟨rfl, trivial⟩, ?_⟩; simp only [go_sem, *])
end Go.Abs

