/-
  WHAT THE PROOF STANDS ON, PART 5: contracts of the program's functions and the logic that they are proved in. No condition.
-/
import Derived.Test.YtmhleaopjcfjnaaGreatQ4
set_option linter.unusedVariables false
set_option linter.unusedSimpArgs false
set_option linter.unusedSectionVars false
namespace Go.Abs
open Go Go.Proofs
set_option maxRecDepth 10000
set_option maxHeartbeats 4000000
def wideL (p : Plan) : Bool := p.any fun l => decide (20 < l.length)
def wideB (p : Plan) : Bool := decide (20 < p.length) || wideL p
theorem wideL_drop {p : Plan} {i : Nat} (h : i < p.length) : wideL (p.drop i) = (decide (20 < (p.getD i default).length) || wideL (p.drop (i + 1))) := by
 unfold wideL; rw [drop_cons h, List.any_cons]
theorem sp_wide (p : Plan) (h1 : p.length ≤ 4294967296) (W : Bool) (hW : wideB p = W) : Spec Tryz.prog 19 [encPlan p] [] (bV W) [] := by
 unfold wideB at hW
 by_cases q : 20 < p.length
 ·have q2 : (p.length : Int) > 20 := by omega
  have e : decide (20 < p.length) = true := by simpa using q
  rw [e, Bool.true_or] at hW
  subst hW
  clear e q
  refine spec_body Tryz.func19 rfl (fun E hE => ?_); simp only [go_sem, Tryz.ntmps19]
  repeat' (first | (with_reducible (show runOps ..); first | (refine Qr rfl ?_; try intro K' hK; try simp only [go_sem, *])) | (with_reducible (show Hold ..); first | refine Qh rfl ?_ | (refine s_cond rfl ⟨_, rfl, fun hb => ?_, fun hb => ?_⟩ <;> (have hc := hb; try simp only [go_sem] at hc)) | refine s_ret rfl ?_) | ((with_reducible refine Qb ?_ ?_); focus kernel_rfl) | ((with_reducible refine And.intro ?_ ?_); focus omega) | (refine contA_of hK ?_; clear hK K'; simp only [go_sem, *]) | (simp only [thenA, inBlockA, go_sem, *]))
  all_goals first | contradiction | omega | skip
  (refine ⟨[_], [], [], ⟨rfl, trivial⟩, ?_⟩; simp only [go_sem, *])
 ·have q2 : ¬ (p.length : Int) > 20 := by omega
  have e : decide (20 < p.length) = false := by simpa using q
  rw [e, Bool.false_or] at hW
  have hW0 : wideL (p.drop 0) = W := hW
  clear e hW
  refine spec_body Tryz.func19 rfl (fun E hE => ?_); simp only [go_sem, Tryz.ntmps19]
  repeat' (first | (with_reducible (show runOps ..); first | (refine Qr rfl ?_; try intro K' hK; try simp only [go_sem, *])) | (with_reducible (show Hold ..); first | refine Qh rfl ?_ | (refine s_cond rfl ⟨_, rfl, fun hb => ?_, fun hb => ?_⟩ <;> (have hc := hb; try simp only [go_sem] at hc)) | refine s_ret rfl ?_) | ((with_reducible refine Qb ?_ ?_); focus kernel_rfl) | ((with_reducible refine And.intro ?_ ?_); focus omega) | (refine contA_of hK ?_; clear hK K'; simp only [go_sem, *]) | (simp only [thenA, inBlockA, go_sem, *]))
  all_goals first | contradiction | omega | skip
  refine s_loop rfl (fun zn zN zenv zAs => ∃ (i : Nat), zn = (p.length) - i ∧ i ≤ (p.length) ∧ (wideL (p.drop i) = W) ∧ zN = 22 ∧ zenv = [(3, iV i), (1, .ptr 0 0)] ∧ zAs = [pBox p]) (p.length) ⟨[some 0], [], _, _, _, (by (simp only [Weak, go_sem, List.map_append, List.map_set, *] <;> (try simp (disch := omega) only [wrap_succ]) <;> (try simp) <;> (try omega))), 0, (by simp), (by simp), (by exact hW0), rfl, rfl, rfl⟩ ?_; rintro _ _ _ _ ⟨i, rfl, hi, hP, rfl, rfl, rfl⟩
  by_cases hi2 : i < p.length
  ·rw [wideL_drop hi2] at hP
   by_cases r : 20 < (p.getD i default).length
   ·have r2 : ((p.getD i default).length : Int) > 20 := by omega
    have e : decide (20 < (p.getD i default).length) = true := by simpa using r
    rw [e, Bool.true_or] at hP
    subst hP
    clear e r
    repeat' (first | (with_reducible (show runOps ..); first | (refine Qr rfl ?_; try intro K' hK; try simp only [go_sem, *])) | (with_reducible (show Hold ..); first | refine Qh rfl ?_ | (refine s_cond rfl ⟨_, rfl, fun hb => ?_, fun hb => ?_⟩ <;> (have hc := hb; try simp only [go_sem] at hc)) | refine s_ret rfl ?_) | ((with_reducible refine Qb ?_ ?_); focus kernel_rfl) | ((with_reducible refine And.intro ?_ ?_); focus omega) | (refine contA_of hK ?_; clear hK K'; simp only [go_sem, *]) | (simp only [thenA, inBlockA, go_sem, *]))
    all_goals first | contradiction | omega | skip
    (refine ⟨[_], [], [], ⟨rfl, trivial⟩, ?_⟩; simp only [go_sem, *])
   ·have r2 : ¬ ((p.getD i default).length : Int) > 20 := by omega
    have e : decide (20 < (p.getD i default).length) = false := by simpa using r
    rw [e, Bool.false_or] at hP
    clear e r
    repeat' (first | (with_reducible (show runOps ..); first | (refine Qr rfl ?_; try intro K' hK; try simp only [go_sem, *])) | (with_reducible (show Hold ..); first | refine Qh rfl ?_ | (refine s_cond rfl ⟨_, rfl, fun hb => ?_, fun hb => ?_⟩ <;> (have hc := hb; try simp only [go_sem] at hc)) | refine s_ret rfl ?_) | ((with_reducible refine Qb ?_ ?_); focus kernel_rfl) | ((with_reducible refine And.intro ?_ ?_); focus omega) | (refine contA_of hK ?_; clear hK K'; simp only [go_sem, *]) | (simp only [thenA, inBlockA, go_sem, *]))
    all_goals first | contradiction | omega | skip
    refine ⟨_, (by omega), [some 0], [], _, _, _, (by (simp only [Weak, go_sem, List.map_append, List.map_set, *] <;> (try simp (disch := omega) only [wrap_succ]) <;> (try simp) <;> (try omega))), i + 1, rfl, (by omega), (by exact hP), rfl, rfl, rfl⟩
  ·rw [drop_end (by omega)] at hP
   have hP2 : false = W := hP
   subst hP2
   repeat' (first | (with_reducible (show runOps ..); first | (refine Qr rfl ?_; try intro K' hK; try simp only [go_sem, *])) | (with_reducible (show Hold ..); first | refine Qh rfl ?_ | (refine s_cond rfl ⟨_, rfl, fun hb => ?_, fun hb => ?_⟩ <;> (have hc := hb; try simp only [go_sem] at hc)) | refine s_ret rfl ?_) | ((with_reducible refine Qb ?_ ?_); focus kernel_rfl) | ((with_reducible refine And.intro ?_ ?_); focus omega) | (refine contA_of hK ?_; clear hK K'; simp only [go_sem, *]) | (simp only [thenA, inBlockA, go_sem, *]))
   (refine ⟨[_], [], [], ⟨rfl, trivial⟩, ?_⟩; simp only [go_sem, *])
theorem wide_valid {p : Plan} (v : Valid p) : wideB p = false := by
 unfold wideB wideL
 rw [Bool.or_eq_false_iff]
 refine ⟨by simp; have := v.len; omega, ?_⟩
 rw [List.any_eq_false]
 intro l hl
 have := (v.rows l hl).len
 simp; omega
end Go.Abs

namespace Go.Abs
open Go Go.Proofs
set_option maxRecDepth 10000
set_option maxHeartbeats 4000000
attribute [go_sem] diceBox Nat.le_refl Nat.sub_zero Int.reduceGT Nat.reduceGT Int.reduceGE
@[go_sem ↓] theorem intA_xor (a b : Int) (K : Cont) : intA .xor .u64 a b K = K (uV (xor64 a b)) [] [] := rfl
@[go_sem ↓] theorem shiftA_shl (a b : Int) (K : Cont) : shiftA .shl .u64 a b K = (0 ≤ b ∧ K (uV (shl64 a b.toNat)) [] []) := rfl
@[go_sem ↓] theorem shiftA_shr (a b : Int) (K : Cont) : shiftA .shr .u64 a b K = (0 ≤ b ∧ K (uV (shr64 a b.toNat)) [] []) := rfl
@[go_sem] theorem fold_mix1 (s : Int) : xor64 s (shl64 s 13) = mix1 s := rfl
@[go_sem] theorem fold_mix2 (s : Int) : xor64 s (shr64 s 7) = mix2 s := rfl
@[go_sem] theorem fold_mix3 (s : Int) : xor64 s (shl64 s 17) = mix3 s := rfl
@[go_sem] theorem fold_mixed (s : Int) : mix3 (mix2 (mix1 s)) = mixed3 s := rfl
@[go_sem] theorem fold_rawM (n : Int) : IntKind.u64.wrap (xor64 n (shr64 n 30) * 10723151780598845931) = rawM n := rfl
theorem sp_raw (d : Dice) (h : d.list.length ≤ 4294967296) : Spec Tryz.prog 95 [.ptr 0 0] [diceBox d] (uV (rawN d)) [diceBox (rawD d)] := by
 have e2 : (rawD d).list = d.list := rfl
 have e4 : (rawD d).seed = rawS d := rfl
 have e6 : rawN d = xor64 (rawM (rawS d)) (shr64 (rawM (rawS d)) 31) := rfl
 by_cases q : d.at_ < d.list.length
 ·have q2 : ((d.at_ : Int) < (d.list.length : Int)) := by omega
  have e1 : rawS d = IntKind.u64.wrap (mixed3 d.seed + IntKind.u64.wrap (IntKind.u64.wrap (d.list.getD d.at_ default) * 13787848793156543929)) := by unfold rawS; rw [if_pos q]
  have e3 : (rawD d).at_ = d.at_ + 1 := by unfold rawD; simp only; rw [if_pos q]
  have e5 : IntKind.i64.wrap ((d.at_ : Int) + 1) = ((d.at_ + 1 : Nat) : Int) := wrap_succ (by omega)
  generalize rawD d = d' at *
  refine spec_body Tryz.func95 rfl (fun E hE => ?_); simp only [go_sem, Tryz.ntmps95]
  repeat' (first | (with_reducible (show runOps ..); first | (refine Qr rfl ?_; try intro K' hK; try simp only [go_sem, *])) | (with_reducible (show Hold ..); first | refine Qh rfl ?_ | refine s_draw rfl Tryz.mixed (by kernel_rfl) ?_ | (refine s_cond rfl ⟨_, rfl, fun hb => ?_, fun hb => ?_⟩ <;> (have hc := hb; try simp only [go_sem] at hc)) | refine s_ret rfl ?_) | ((with_reducible refine Qb ?_ ?_); focus kernel_rfl) | ((with_reducible refine And.intro ?_ ?_); focus omega) | (refine contA_of hK ?_; clear hK K'; simp only [go_sem, *]) | (simp only [thenA, inBlockA, go_sem, *]))
  all_goals first | contradiction | omega | skip
  refine ⟨[_], [some 0], [], ⟨rfl, trivial⟩, ?_⟩
  simp only [go_sem, *]
 ·have q2 : ¬ ((d.at_ : Int) < (d.list.length : Int)) := by omega
  have e1 : rawS d = mixed3 d.seed := by unfold rawS; rw [if_neg q]
  have e3 : (rawD d).at_ = d.at_ := by unfold rawD; simp only; rw [if_neg q]
  generalize rawD d = d' at *
  refine spec_body Tryz.func95 rfl (fun E hE => ?_); simp only [go_sem, Tryz.ntmps95]
  repeat' (first | (with_reducible (show runOps ..); first | (refine Qr rfl ?_; try intro K' hK; try simp only [go_sem, *])) | (with_reducible (show Hold ..); first | refine Qh rfl ?_ | refine s_draw rfl Tryz.mixed (by kernel_rfl) ?_ | (refine s_cond rfl ⟨_, rfl, fun hb => ?_, fun hb => ?_⟩ <;> (have hc := hb; try simp only [go_sem] at hc)) | refine s_ret rfl ?_) | ((with_reducible refine Qb ?_ ?_); focus kernel_rfl) | ((with_reducible refine And.intro ?_ ?_); focus omega) | (refine contA_of hK ?_; clear hK K'; simp only [go_sem, *]) | (simp only [thenA, inBlockA, go_sem, *]))
  all_goals first | contradiction | omega | skip
  refine ⟨[_], [some 0], [], ⟨rfl, trivial⟩, ?_⟩
  simp only [go_sem, *]
theorem toD_list (n : Int) (d : Dice) : (toD n d).list = d.list := by unfold toD; split <;> rfl
theorem sp_To (d : Dice) (n : Int) (h : d.list.length ≤ 4294967296) (hn : n ≤ 4294967296) : Spec Tryz.prog 30 [.ptr 0 0, iV n] [diceBox d] (iV (toN n d)) [diceBox (toD n d)] := by
 by_cases q : n < 1
 ·have e1 : toN n d = 0 := by unfold toN; rw [if_pos q]
  have e2 : toD n d = d := by unfold toD; rw [if_pos q]
  refine spec_body Tryz.func30 rfl (fun E hE => ?_); simp only [go_sem, Tryz.ntmps30]
  repeat' (first | (with_reducible (show runOps ..); first | (refine Qr rfl ?_; try intro K' hK; try simp only [go_sem, *])) | (with_reducible (show Hold ..); first | refine Qh rfl ?_ | (refine s_cond rfl ⟨_, rfl, fun hb => ?_, fun hb => ?_⟩ <;> (have hc := hb; try simp only [go_sem] at hc)) | refine s_ret rfl ?_) | ((with_reducible refine Qb ?_ ?_); focus kernel_rfl) | ((with_reducible refine And.intro ?_ ?_); focus omega) | (refine contA_of hK ?_; clear hK K'; simp only [go_sem, *]) | (simp only [thenA, inBlockA, go_sem, *]))
  all_goals first | contradiction | omega | skip
  refine ⟨[_], [some 0], [], ⟨rfl, trivial⟩, ?_⟩
  simp only [go_sem, *]
 ·have e1 : toN n d = (shr64 (rawN d) 16).tmod (n + 1) := by unfold toN; rw [if_neg q]
  have e2 : toD n d = rawD d := by unfold toD; rw [if_neg q]
  have hr := toN_range n d
  rw [e1] at hr
  have e3 : IntKind.i64.wrap (n + 1) = n + 1 := wrap_i64 (by omega) (by omega)
  have e4 : IntKind.u64.wrap (n + 1) = n + 1 := by rw [IntKind.wrap_u64]; omega
  have e5 : IntKind.i64.wrap ((shr64 (rawN d) 16).tmod (n + 1)) = (shr64 (rawN d) 16).tmod (n + 1) := wrap_i64 (by omega) (by omega)
  have e6 : ¬ n + 1 = 0 := by omega
  have sr := sp_raw d h
  generalize rawN d = r at *
  generalize rawD d = d' at *
  clear hr
  refine spec_body Tryz.func30 rfl (fun E hE => ?_); simp only [go_sem, Tryz.ntmps30]
  repeat' (first | (with_reducible (show runOps ..); first | (refine Qr rfl ?_; try intro K' hK; try simp only [go_sem, *])) | (with_reducible (show Hold ..); first | refine Qh rfl ?_ | (refine s_cond rfl ⟨_, rfl, fun hb => ?_, fun hb => ?_⟩ <;> (have hc := hb; try simp only [go_sem] at hc)) | refine s_ret rfl ?_) | (with_reducible (show callA ..); first | (refine call_of [0] [] (sr) (by simp) ?_ ?_ (by simp) (.inl rfl) ?_ ?_ ?_; (focus (simp only [go_sem, *]; done)); (focus (simp only [go_sem, *]; done)); (focus (first | (simp; done) | (simp [go_sem]; done))); (focus (first | (simp; done) | (simp [go_sem]; done))); simp only [go_sem, *])) | ((with_reducible refine Qb ?_ ?_); focus kernel_rfl) | ((with_reducible refine And.intro ?_ ?_); focus omega) | (refine contA_of hK ?_; clear hK K'; simp only [go_sem, *]) | (simp only [thenA, inBlockA, go_sem, *]))
  all_goals first | contradiction | omega | skip
  refine ⟨[_], [some 0], [], ⟨rfl, trivial⟩, ?_⟩
  simp only [go_sem, *]
theorem sp_From (d : Dice) (lo hi : Int) (h : d.list.length ≤ 4294967296) (hl : 0 ≤ lo ∧ lo ≤ hi) (hh : hi ≤ 4294967296) : Spec Tryz.prog 83 [.ptr 0 0, iV lo, iV hi] [diceBox d] (iV (fromN lo hi d)) [diceBox (fromD lo hi d)] := by
 have st := sp_To d (hi - lo) h (by omega)
 have hf := fromN_le hl.2 d
 have e1 : IntKind.i64.wrap (hi - lo) = hi - lo := wrap_i64 (by omega) (by omega)
 have e2 : IntKind.i64.wrap (lo + toN (hi - lo) d) = fromN lo hi d := by
  have : lo + toN (hi - lo) d = fromN lo hi d := rfl
  rw [this]; exact wrap_i64 (by omega) (by omega)
 have e3 : fromD lo hi d = toD (hi - lo) d := rfl
 rw [e3]
 generalize fromN lo hi d = r at *
 clear e3 hf hl
 refine spec_body Tryz.func83 rfl (fun E hE => ?_); simp only [go_sem, Tryz.ntmps83]
 repeat' (first | (with_reducible (show runOps ..); first | (refine Qr rfl ?_; try intro K' hK; try simp only [go_sem, *])) | (with_reducible (show Hold ..); first | refine Qh rfl ?_ | (refine s_cond rfl ⟨_, rfl, fun hb => ?_, fun hb => ?_⟩ <;> (have hc := hb; try simp only [go_sem] at hc)) | refine s_ret rfl ?_) | (with_reducible (show callA ..); first | (refine call_of [0] [] (st) (by simp) ?_ ?_ (by simp) (.inl rfl) ?_ ?_ ?_; (focus (simp only [go_sem, *]; done)); (focus (simp only [go_sem, *]; done)); (focus (first | (simp; done) | (simp [go_sem]; done))); (focus (first | (simp; done) | (simp [go_sem]; done))); simp only [go_sem, *])) | ((with_reducible refine Qb ?_ ?_); focus kernel_rfl) | ((with_reducible refine And.intro ?_ ?_); focus omega) | (refine contA_of hK ?_; clear hK K'; simp only [go_sem, *]) | (simp only [thenA, inBlockA, go_sem, *]))
 refine ⟨[_], [some 0], [], ⟨rfl, trivial⟩, ?_⟩
 simp only [go_sem, *]
theorem sp_Once (d : Dice) (k : Int) (h : d.list.length ≤ 4294967296) (hk : 0 ≤ k ∧ k ≤ 4294967296) : Spec Tryz.prog 84 [.ptr 0 0, iV k] [diceBox d] (bV (onceT k d)) [diceBox (onceR k d)] := by
 have st := sp_To d (k - 1) h (by omega)
 have e1 : IntKind.i64.wrap (k - 1) = k - 1 := wrap_i64 (by omega) (by omega)
 have e2 : onceT k d = (toN (k - 1) d == 0) := rfl
 have e3 : onceR k d = toD (k - 1) d := rfl
 rw [e3, e2]
 clear e2 e3 hk
 refine spec_body Tryz.func84 rfl (fun E hE => ?_); simp only [go_sem, Tryz.ntmps84]
 repeat' (first | (with_reducible (show runOps ..); first | (refine Qr rfl ?_; try intro K' hK; try simp only [go_sem, *])) | (with_reducible (show Hold ..); first | refine Qh rfl ?_ | (refine s_cond rfl ⟨_, rfl, fun hb => ?_, fun hb => ?_⟩ <;> (have hc := hb; try simp only [go_sem] at hc)) | refine s_ret rfl ?_) | (with_reducible (show callA ..); first | (refine call_of [0] [] (st) (by simp) ?_ ?_ (by simp) (.inl rfl) ?_ ?_ ?_; (focus (simp only [go_sem, *]; done)); (focus (simp only [go_sem, *]; done)); (focus (first | (simp; done) | (simp [go_sem]; done))); (focus (first | (simp; done) | (simp [go_sem]; done))); simp only [go_sem, *])) | ((with_reducible refine Qb ?_ ?_); focus kernel_rfl) | ((with_reducible refine And.intro ?_ ?_); focus omega) | (refine contA_of hK ?_; clear hK K'; simp only [go_sem, *]) | (simp only [thenA, inBlockA, go_sem, *]))
 refine ⟨[_], [some 0], [], ⟨rfl, trivial⟩, ?_⟩
 simp only [go_sem, *]
def newDice (l : List Int) : Dice := ⟨l, 0, 11400714819323198485⟩
theorem sp_NewDice (l : List Int) : Spec Tryz.prog 21 [encInts l] [] (.ptr 0 0) [diceBox (newDice l)] := by
 refine spec_body Tryz.func21 rfl (fun E hE => ?_); simp only [go_sem, Tryz.ntmps21]
 repeat' (first | (with_reducible (show runOps ..); first | (refine Qr rfl ?_; try intro K' hK; try simp only [go_sem, *])) | (with_reducible (show Hold ..); first | refine Qh rfl ?_ | (refine s_cond rfl ⟨_, rfl, fun hb => ?_, fun hb => ?_⟩ <;> (have hc := hb; try simp only [go_sem] at hc)) | refine s_ret rfl ?_) | ((with_reducible refine Qb ?_ ?_); focus kernel_rfl) | ((with_reducible refine And.intro ?_ ?_); focus omega) | (refine contA_of hK ?_; clear hK K'; simp only [go_sem, *]) | (simp only [thenA, inBlockA, go_sem, *]))
 refine ⟨[_], [some 0], [], ⟨rfl, trivial⟩, ?_⟩
 simp only [go_sem, newDice, *]
end Go.Abs

namespace Go.Abs
open Go Go.Proofs
set_option maxRecDepth 10000
set_option maxHeartbeats 4000000
theorem fromD_list (a b : Int) (d : Dice) : (fromD a b d).list = d.list := toD_list _ _
theorem onceR_list (k : Int) (d : Dice) : (onceR k d).list = d.list := toD_list _ _
theorem plateN_list (d : Dice) : (plateN d).2.list = d.list := by
 unfold plateN plateK
 split
 ·simp only [fromD_list, onceR_list]
 ·simp only [fromD_list, onceR_list]
theorem platesN_list : ∀ (n : Nat) (d : Dice) (out : List Plate), (platesN n d out).2.list = d.list
 | 0, d, out => rfl
 | n + 1, d, out => by rw [platesN, platesN_list n]; exact plateN_list d
theorem platesOf_list (d : Dice) (m : Int) : (platesOf d m).2.list = d.list := by unfold platesOf; rw [platesN_list, toD_list]
def PlP (most : Int) (d : Dice) (k : Nat) (dd : Dice) (acc : List Plate) (R : List Plate × Dice) : Prop := platesN k dd acc = R ∧ dd.list.length ≤ 4294967296 ∧ acc.length + k ≤ 8
theorem PlP.next {most : Int} {d dd : Dice} {k : Nat} {acc : List Plate} {R : List Plate × Dice} (h : PlP most d (k + 1) dd acc R) : PlP most d k (plateN dd).2 (insPl (plateN dd).1 acc) R := by
 obtain ⟨h1, h2, h3⟩ := h
 have := insPl_len (x := (plateN dd).1) (l := acc)
 exact ⟨h1, by rw [plateN_list]; exact h2, by omega⟩
def AtP (x : Plate) (acc : List Plate) (j : Nat) : Prop := ∀ m, m < j → (acc.getD m default).lt x = true
theorem AtP.next {x : Plate} {acc : List Plate} {j : Nat} (h : AtP x acc j) (hx : (acc.getD j default).lt x = true) : AtP x acc (j + 1) := fun m hm => by
 rcases Nat.lt_succ_iff_lt_or_eq.1 hm with h1 | rfl
 ·exact h m h1
 ·exact hx
theorem sp_PlatesOf (d : Dice) (most : Int) (h : d.list.length ≤ 4294967296) (hm : most ≤ 8) :
  Spec Tryz.prog 85 [.ptr 0 0, iV most] [diceBox d] (.list ((platesOf d most).1.map Plate.enc)) [diceBox (platesOf d most).2] := by
 have st := sp_To d most h (by omega)
 have hr := toN_range most d
 obtain ⟨n, hn⟩ : ∃ n : Nat, toN most d = n := ⟨(toN most d).toNat, by omega⟩
 have h0 : PlP most d (n - 0) (toD most d) [] (platesOf d most) := by
  unfold platesOf
  rw [hn]
  exact ⟨by simp, by rw [toD_list]; exact h, by simp; omega⟩
 rw [hn] at st hr
 generalize platesOf d most = R at *
 obtain ⟨RL, RD⟩ := R
 clear hn
 generalize toD most d = d0 at *
 refine spec_body Tryz.func85 rfl (fun E hE => ?_); simp only [go_sem, Tryz.ntmps85]
 repeat' (first | (with_reducible (show runOps ..); first | (refine Qr rfl ?_; try intro K' hK; try simp only [go_sem, *]) | (refine Qi rfl rfl rfl rfl (fun hb K' hK => ?_) (fun hb => ?_) <;> (have hc := hb; try simp only [go_sem] at hc; simp only [go_sem, *]))) | (with_reducible (show Hold ..); first | refine Qh rfl ?_ | refine s_draw rfl Tryz.mixed (by kernel_rfl) ?_ | (refine s_cond rfl ⟨_, rfl, fun hb => ?_, fun hb => ?_⟩ <;> (have hc := hb; try simp only [go_sem] at hc)) | refine s_ret rfl ?_) | (with_reducible (show callA ..); first | (refine call_of [0] [] (st) (by simp) ?_ ?_ (by simp) (.inl rfl) ?_ ?_ ?_; (focus (simp only [go_sem, *]; done)); (focus (simp only [go_sem, *]; done)); (focus (first | (simp; done) | (simp [go_sem]; done))); (focus (first | (simp; done) | (simp [go_sem]; done))); simp only [go_sem, *])) | ((with_reducible refine Qb ?_ ?_); focus kernel_rfl) | ((with_reducible refine And.intro ?_ ?_); focus omega) | (refine contA_of hK ?_; clear hK K'; simp only [go_sem, *]) | (simp only [thenA, inBlockA, go_sem, *]))
 refine s_loop rfl (fun zn zN zenv zAs => ∃ (i : Nat) (dd : Dice) (acc : List Plate), zn = (n) - i ∧ i ≤ (n) ∧ (PlP most d (n - i) dd acc (RL, RD)) ∧ zN = 63 ∧ zenv = [(6, iV ((n - i : Nat) : Int)), (5, .own 1 2 0 acc.length), (0, .ptr 0 0)] ∧ zAs = [diceBox dd, .row 2 (acc.map Plate.enc)]) (n) ⟨[some 0, none], [], _, _, _, (by (simp only [Weak, go_sem, List.map_append, List.map_set, *] <;> (try simp (disch := omega) only [wrap_succ]) <;> (try simp) <;> (try omega))), 0, d0, [], (by simp), (by simp), (by exact h0), rfl, rfl, rfl⟩ ?_; rintro _ _ _ _ ⟨i, dd, acc, rfl, hi, hP, rfl, rfl, rfl⟩
 clear h0 st
 by_cases hi2 : i < n
 ·obtain ⟨k, hk⟩ : ∃ k, n - i = k + 1 := ⟨n - i - 1, by omega⟩
  have hk2 : n - (i + 1) = k := by omega
  rw [hk] at hP ⊢
  have hnx := hP.next
  have hw1 : IntKind.i64.wrap (((k + 1 : Nat) : Int) - 1) = (k : Int) := by rw [wrap_i64 (by omega) (by omega)]; omega
  have hgt : ((k + 1 : Nat) : Int) > 0 := by omega
  obtain ⟨_, hdl, hal⟩ := hP
  have s1 := sp_From dd 1 9 hdl (by omega) (by omega)
  have s2 := sp_Once (fromD 1 9 dd) 4 (by rw [fromD_list]; exact hdl) (by omega)
  have s3 := sp_From (onceR 4 (fromD 1 9 dd)) 1 2 (by rw [onceR_list, fromD_list]; exact hdl) (by omega) (by omega)
  unfold plateN at hnx
  generalize fromN 1 9 dd = x1 at *
  generalize fromD 1 9 dd = d1 at *
  generalize onceR 4 d1 = d2 at *
  generalize fromN 1 2 d2 = x2 at *
  generalize fromD 1 2 d2 = d3 at *
  obtain ⟨⟨x, d'⟩, hxd⟩ : ∃ xd, xd = plateK x1 (onceT 4 d1) x2 d3 d2 := ⟨_, rfl⟩
  rw [← hxd] at hnx
  generalize onceT 4 d1 = b at *
  have hxq : b = true ∧ x = ⟨x1, x2⟩ ∧ d' = d3 ∨ b = false ∧ x = ⟨x1, 0⟩ ∧ d' = d2 := by
   unfold plateK at hxd
   cases b
   ·right; simpa using hxd
   ·left; simpa using hxd
  clear hxd
  rcases hxq with ⟨rfl, hx, hd⟩ | ⟨rfl, hx, hd⟩
  all_goals repeat' (first | (with_reducible (show runOps ..); first | (refine Qr rfl ?_; try intro K' hK; try simp only [go_sem, *]) | (refine Qi rfl rfl rfl rfl (fun hb K' hK => ?_) (fun hb => ?_) <;> (have hc := hb; try simp only [go_sem] at hc; simp only [go_sem, *]))) | (with_reducible (show Hold ..); first | refine Qh rfl ?_ | refine s_draw rfl Tryz.mixed (by kernel_rfl) ?_ | (refine s_cond rfl ⟨_, rfl, fun hb => ?_, fun hb => ?_⟩ <;> (have hc := hb; try simp only [go_sem] at hc)) | refine s_ret rfl ?_) | (with_reducible (show callA ..); first | (refine call_of [0] [] (s1) (by simp) ?_ ?_ (by simp) (.inl rfl) ?_ ?_ ?_; (focus (simp only [go_sem, *]; done)); (focus (simp only [go_sem, *]; done)); (focus (first | (simp; done) | (simp [go_sem]; done))); (focus (first | (simp; done) | (simp [go_sem]; done))); simp only [go_sem, *]) | (refine call_of [0] [] (s2) (by simp) ?_ ?_ (by simp) (.inl rfl) ?_ ?_ ?_; (focus (simp only [go_sem, *]; done)); (focus (simp only [go_sem, *]; done)); (focus (first | (simp; done) | (simp [go_sem]; done))); (focus (first | (simp; done) | (simp [go_sem]; done))); simp only [go_sem, *]) | (refine call_of [0] [] (s3) (by simp) ?_ ?_ (by simp) (.inl rfl) ?_ ?_ ?_; (focus (simp only [go_sem, *]; done)); (focus (simp only [go_sem, *]; done)); (focus (first | (simp; done) | (simp [go_sem]; done))); (focus (first | (simp; done) | (simp [go_sem]; done))); simp only [go_sem, *])) | ((with_reducible refine Qb ?_ ?_); focus kernel_rfl) | ((with_reducible refine And.intro ?_ ?_); focus omega) | (refine contA_of hK ?_; clear hK K'; simp only [go_sem, *]) | (simp only [thenA, inBlockA, go_sem, *]))
  all_goals first | contradiction | skip
  all_goals
   have hx1 := congrArg Plate.number hx
   have hx2 := congrArg Plate.letter hx
   simp only at hx1 hx2
   refine hold_weak (N := 63) (env := [(8, iV 0), (7, .ptr 2 0), (6, iV ((k + 1 : Nat) : Int)), (5, .own 1 2 0 acc.length), (0, .ptr 0 0)]) (As := [diceBox d', .row 2 (acc.map Plate.enc), .box [iV x.number, iV x.letter]]) [some 0, some 1, some 2] [] (by (simp only [Weak, go_sem, List.map_append, List.map_set, *] <;> (try simp (disch := omega) only [wrap_succ]) <;> (try simp) <;> (try omega))) ?_
   clear hx hd hx1 hx2 s1 s2 s3 hm hr
   refine s_loop rfl (fun zn zN zenv zAs => ∃ (j : Nat), zn = (acc.length) - j ∧ j ≤ (acc.length) ∧ (AtP x acc j) ∧ zN = 63 ∧ zenv = [(8, iV j), (7, .ptr 2 0), (6, iV ((k + 1 : Nat) : Int)), (5, .own 1 2 0 acc.length), (0, .ptr 0 0)] ∧ zAs = [diceBox d', .row 2 (acc.map Plate.enc), .box [iV x.number, iV x.letter]]) (acc.length) ⟨[some 0, some 1, some 2], [], _, _, _, (by (simp only [Weak, go_sem, List.map_append, List.map_set, *] <;> (try simp (disch := omega) only [wrap_succ]) <;> (try simp) <;> (try omega))), 0, (by simp), (by simp), (by exact fun m hm => absurd hm (by omega)), rfl, rfl, rfl⟩ ?_; rintro _ _ _ _ ⟨j, rfl, hj, hJ, rfl, rfl, rfl⟩
   have hmn : min j acc.length = j := by omega
   have hl2 : j + (acc.length - j + 1) = j + 1 + (acc.length - j) := by omega
   have hdl2 : (List.drop j (List.map Plate.enc acc)).length = acc.length - j := by simp
   have htd : List.take (acc.length - j) (List.drop j (List.map Plate.enc acc)) = List.drop j (List.map Plate.enc acc) := List.take_of_length_le (by simp)
   by_cases hj2 : j < acc.length
   ·have hj3 : ((j : Int) == (acc.length : Int)) = false := by simp; omega
    have sb := sp_before (acc.getD j default) x
    by_cases hlt : (acc.getD j default).lt x = true
    ·rw [hlt] at sb
     repeat' (first | (with_reducible (show runOps ..); first | (refine Qr rfl ?_; try intro K' hK; try simp only [go_sem, *]) | (refine Qi rfl rfl rfl rfl (fun hb K' hK => ?_) (fun hb => ?_) <;> (have hc := hb; try simp only [go_sem] at hc; simp only [go_sem, *]))) | (with_reducible (show Hold ..); first | refine Qh rfl ?_ | refine s_draw rfl Tryz.mixed (by kernel_rfl) ?_ | (refine s_cond rfl ⟨_, rfl, fun hb => ?_, fun hb => ?_⟩ <;> (have hc := hb; try simp only [go_sem] at hc)) | refine s_ret rfl ?_) | (with_reducible (show (∀ _ : AV, _ → _) ∧ _); refine And.intro ?_ ?_; (focus (intro y hy; first | (obtain ⟨z, _, rfl⟩ := List.mem_map.1 (hy); simp [go_sem]; done) | (obtain ⟨z, _, rfl⟩ := List.mem_map.1 (List.mem_of_mem_take hy); simp [go_sem]; done) | (obtain ⟨z, _, rfl⟩ := List.mem_map.1 (List.mem_of_mem_drop hy); simp [go_sem]; done) | (obtain ⟨z, _, rfl⟩ := List.mem_map.1 (List.mem_of_mem_drop (List.mem_of_mem_take hy)); simp [go_sem]; done)))) | (with_reducible (show callA ..); first | (refine call_s (sb) ?_ ?_; (focus (simp only [go_sem, *]; done)); simp only [go_sem, *])) | ((with_reducible refine Qb ?_ ?_); focus kernel_rfl) | ((with_reducible refine And.intro ?_ ?_); focus omega) | (refine contA_of hK ?_; clear hK K'; simp only [go_sem, *]) | (simp only [thenA, inBlockA, go_sem, *]))
     all_goals first | contradiction | skip
     refine ⟨_, (by omega), [some 0, some 1, some 2], [], _, _, _, (by (simp only [Weak, go_sem, List.map_append, List.map_set, *] <;> (try simp (disch := omega) only [wrap_succ]) <;> (try simp) <;> (try omega))), j + 1, rfl, (by omega), (by exact hJ.next hlt), rfl, rfl, rfl⟩
    ·rw [Bool.not_eq_true] at hlt
     rw [hlt] at sb
     have hin := insPl_at (by omega) hJ (fun _ => hlt)
     by_cases heq : acc.getD j default = x
     ·rw [if_pos ⟨hj2, heq⟩] at hin
      rw [hin] at hnx
      clear hin
      have hne : (decide (acc.getD j default = x)) = true := by simpa using heq
      clear heq
      repeat' (first | (with_reducible (show runOps ..); first | (refine Qr rfl ?_; try intro K' hK; try simp only [go_sem, *]) | (refine Qi rfl rfl rfl rfl (fun hb K' hK => ?_) (fun hb => ?_) <;> (have hc := hb; try simp only [go_sem] at hc; simp only [go_sem, *]))) | (with_reducible (show Hold ..); first | refine Qh rfl ?_ | refine s_draw rfl Tryz.mixed (by kernel_rfl) ?_ | (refine s_cond rfl ⟨_, rfl, fun hb => ?_, fun hb => ?_⟩ <;> (have hc := hb; try simp only [go_sem] at hc)) | refine s_ret rfl ?_) | (with_reducible (show (∀ _ : AV, _ → _) ∧ _); refine And.intro ?_ ?_; (focus (intro y hy; first | (obtain ⟨z, _, rfl⟩ := List.mem_map.1 (hy); simp [go_sem]; done) | (obtain ⟨z, _, rfl⟩ := List.mem_map.1 (List.mem_of_mem_take hy); simp [go_sem]; done) | (obtain ⟨z, _, rfl⟩ := List.mem_map.1 (List.mem_of_mem_drop hy); simp [go_sem]; done) | (obtain ⟨z, _, rfl⟩ := List.mem_map.1 (List.mem_of_mem_drop (List.mem_of_mem_take hy)); simp [go_sem]; done)))) | (with_reducible (show callA ..); first | (refine call_s (sb) ?_ ?_; (focus (simp only [go_sem, *]; done)); simp only [go_sem, *])) | ((with_reducible refine Qb ?_ ?_); focus kernel_rfl) | ((with_reducible refine And.intro ?_ ?_); focus omega) | (refine contA_of hK ?_; clear hK K'; simp only [go_sem, *]) | (simp only [thenA, inBlockA, go_sem, *]))
      all_goals first | contradiction | skip
      refine ⟨_, (by omega), [some 0, some 1], [], _, _, _, (by (simp only [Weak, go_sem, List.map_append, List.map_set, *] <;> (try simp (disch := omega) only [wrap_succ]) <;> (try simp) <;> (try omega))), i + 1, d', acc, rfl, (by omega), (by rw [hk2]; exact hnx), rfl, rfl, rfl⟩
     ·rw [if_neg (fun h => heq h.2)] at hin
      rw [hin] at hnx
      clear hin
      have hne : (decide (acc.getD j default = x)) = false := by simpa using heq
      clear heq
      repeat' (first | (with_reducible (show runOps ..); first | (refine Qr rfl ?_; try intro K' hK; try simp only [go_sem, *]) | (refine Qi rfl rfl rfl rfl (fun hb K' hK => ?_) (fun hb => ?_) <;> (have hc := hb; try simp only [go_sem] at hc; simp only [go_sem, *]))) | (with_reducible (show Hold ..); first | refine Qh rfl ?_ | refine s_draw rfl Tryz.mixed (by kernel_rfl) ?_ | (refine s_cond rfl ⟨_, rfl, fun hb => ?_, fun hb => ?_⟩ <;> (have hc := hb; try simp only [go_sem] at hc)) | refine s_ret rfl ?_) | (with_reducible (show (∀ _ : AV, _ → _) ∧ _); refine And.intro ?_ ?_; (focus (intro y hy; first | (obtain ⟨z, _, rfl⟩ := List.mem_map.1 (hy); simp [go_sem]; done) | (obtain ⟨z, _, rfl⟩ := List.mem_map.1 (List.mem_of_mem_take hy); simp [go_sem]; done) | (obtain ⟨z, _, rfl⟩ := List.mem_map.1 (List.mem_of_mem_drop hy); simp [go_sem]; done) | (obtain ⟨z, _, rfl⟩ := List.mem_map.1 (List.mem_of_mem_drop (List.mem_of_mem_take hy)); simp [go_sem]; done)))) | (with_reducible (show callA ..); first | (refine call_s (sb) ?_ ?_; (focus (simp only [go_sem, *]; done)); simp only [go_sem, *])) | ((with_reducible refine Qb ?_ ?_); focus kernel_rfl) | ((with_reducible refine And.intro ?_ ?_); focus omega) | (refine contA_of hK ?_; clear hK K'; simp only [go_sem, *]) | (simp only [thenA, inBlockA, go_sem, *]))
      all_goals first | contradiction | skip
      refine ⟨_, (by omega), [some 0, some 7], [], _, _, _, (by (simp only [Weak, go_sem, List.map_append, List.map_set, *] <;> (try simp (disch := omega) only [wrap_succ]) <;> (try simp) <;> (try omega))), i + 1, d', acc.take j ++ x :: acc.drop j, rfl, (by omega), (by rw [hk2]; exact hnx), rfl, rfl, rfl⟩
   ·have hin := insPl_at (x := x) (l := acc) (k := j) (by omega) hJ (fun h => absurd h hj2)
    rw [if_neg (fun h => hj2 h.1)] at hin
    rw [hin] at hnx
    clear hin
    have hj3 : ((j : Int) == (acc.length : Int)) = true := by simp; omega
    repeat' (first | (with_reducible (show runOps ..); first | (refine Qr rfl ?_; try intro K' hK; try simp only [go_sem, *]) | (refine Qi rfl rfl rfl rfl (fun hb K' hK => ?_) (fun hb => ?_) <;> (have hc := hb; try simp only [go_sem] at hc; simp only [go_sem, *]))) | (with_reducible (show Hold ..); first | refine Qh rfl ?_ | refine s_draw rfl Tryz.mixed (by kernel_rfl) ?_ | (refine s_cond rfl ⟨_, rfl, fun hb => ?_, fun hb => ?_⟩ <;> (have hc := hb; try simp only [go_sem] at hc)) | refine s_ret rfl ?_) | (with_reducible (show (∀ _ : AV, _ → _) ∧ _); refine And.intro ?_ ?_; (focus (intro y hy; first | (obtain ⟨z, _, rfl⟩ := List.mem_map.1 (hy); simp [go_sem]; done) | (obtain ⟨z, _, rfl⟩ := List.mem_map.1 (List.mem_of_mem_take hy); simp [go_sem]; done) | (obtain ⟨z, _, rfl⟩ := List.mem_map.1 (List.mem_of_mem_drop hy); simp [go_sem]; done) | (obtain ⟨z, _, rfl⟩ := List.mem_map.1 (List.mem_of_mem_drop (List.mem_of_mem_take hy)); simp [go_sem]; done)))) | ((with_reducible refine Qb ?_ ?_); focus kernel_rfl) | ((with_reducible refine And.intro ?_ ?_); focus omega) | (refine contA_of hK ?_; clear hK K'; simp only [go_sem, *]) | (simp only [thenA, inBlockA, go_sem, *]))
    all_goals first | contradiction | skip
    refine ⟨_, (by omega), [some 0, some 7], [], _, _, _, (by (simp only [Weak, go_sem, List.map_append, List.map_set, *] <;> (try simp (disch := omega) only [wrap_succ]) <;> (try simp) <;> (try omega))), i + 1, d', acc.take j ++ x :: acc.drop j, rfl, (by omega), (by rw [hk2]; exact hnx), rfl, rfl, rfl⟩
 ·have hni : n - i = 0 := by omega
  rw [hni] at hP ⊢
  obtain ⟨e, _, _⟩ := hP
  rw [platesN] at e
  cases e
  repeat' (first | (with_reducible (show runOps ..); first | (refine Qr rfl ?_; try intro K' hK; try simp only [go_sem, *]) | (refine Qi rfl rfl rfl rfl (fun hb K' hK => ?_) (fun hb => ?_) <;> (have hc := hb; try simp only [go_sem] at hc; simp only [go_sem, *]))) | (with_reducible (show Hold ..); first | refine Qh rfl ?_ | refine s_draw rfl Tryz.mixed (by kernel_rfl) ?_ | (refine s_cond rfl ⟨_, rfl, fun hb => ?_, fun hb => ?_⟩ <;> (have hc := hb; try simp only [go_sem] at hc)) | refine s_ret rfl ?_) | ((with_reducible refine Qb ?_ ?_); focus kernel_rfl) | ((with_reducible refine And.intro ?_ ?_); focus omega) | (refine contA_of hK ?_; clear hK K'; simp only [go_sem, *]) | (simp only [thenA, inBlockA, go_sem, *]))
  refine ⟨[_], [some 0], [1], ⟨rfl, trivial⟩, ?_⟩
  simp only [go_sem, *]
end Go.Abs

namespace Go.Abs
open Go Go.Proofs
set_option maxRecDepth 10000
set_option maxHeartbeats 4000000
theorem streetN_list (d : Dice) (h : Int) : (streetN d h).2.list = d.list := by unfold streetN; rw [platesOf_list, onceR_list]
theorem streetsN_list (h : Int) : ∀ (n : Nat) (d : Dice) (out : Plan), (streetsN h n d out).2.list = d.list
 | 0, d, out => rfl
 | n + 1, d, out => by rw [streetsN, streetsN_list h n]; exact streetN_list d h
theorem planOf_list (d : Dice) (h : Int) : (planOf d h).2.list = d.list := by unfold planOf; rw [streetsN_list, fromD_list]
def StP (houses : Int) (k : Nat) (dd : Dice) (acc : Plan) (R : Plan × Dice) : Prop := streetsN houses k dd acc = R ∧ dd.list.length ≤ 4294967296 ∧ acc.length + k ≤ 3
theorem StP.next {houses : Int} {dd : Dice} {k : Nat} {acc : Plan} {R : Plan × Dice} (h : StP houses (k + 1) dd acc R) : StP houses k (streetN dd houses).2 (acc ++ [(streetN dd houses).1]) R := by
 obtain ⟨h1, h2, h3⟩ := h
 exact ⟨h1, by rw [streetN_list]; exact h2, by simp; omega⟩
theorem sp_PlanOf (d : Dice) (houses : Int) (h : d.list.length ≤ 4294967296) (hm : houses ≤ 8) :
  Spec Tryz.prog 22 [.ptr 0 0, iV houses] [diceBox d] (encPlan (planOf d houses).1) [diceBox (planOf d houses).2] := by
 have st := sp_From d 1 3 h (by omega) (by omega)
 have hr := fromN_le (lo := 1) (hi := 3) (by omega) d
 obtain ⟨n, hn⟩ : ∃ n : Nat, fromN 1 3 d = n := ⟨(fromN 1 3 d).toNat, by omega⟩
 have h0 : StP houses (n - 0) (fromD 1 3 d) [] (planOf d houses) := by
  unfold planOf
  rw [hn]
  exact ⟨by simp, by rw [fromD_list]; exact h, by simp; omega⟩
 rw [hn] at st hr
 generalize planOf d houses = R at *
 obtain ⟨RL, RD⟩ := R
 clear hn
 generalize fromD 1 3 d = d0 at *
 refine spec_body Tryz.func22 rfl (fun E hE => ?_); simp only [go_sem, Tryz.ntmps22]
 repeat' (first | (with_reducible (show runOps ..); first | (refine Qr rfl ?_; try intro K' hK; try simp only [go_sem, *])) | (with_reducible (show Hold ..); first | refine Qh rfl ?_ | refine s_draw rfl Tryz.mixed (by kernel_rfl) ?_ | (refine s_cond rfl ⟨_, rfl, fun hb => ?_, fun hb => ?_⟩ <;> (have hc := hb; try simp only [go_sem] at hc)) | refine s_ret rfl ?_) | (with_reducible (show callA ..); first | (refine call_of [0] [] (st) (by simp) ?_ ?_ (by simp) (.inl rfl) ?_ ?_ ?_; (focus (simp only [go_sem, *]; done)); (focus (simp only [go_sem, *]; done)); (focus (first | (simp; done) | (simp [go_sem]; done))); (focus (first | (simp; done) | (simp [go_sem]; done))); simp only [go_sem, *])) | ((with_reducible refine Qb ?_ ?_); focus kernel_rfl) | ((with_reducible refine And.intro ?_ ?_); focus omega) | (refine contA_of hK ?_; clear hK K'; simp only [go_sem, *]) | (simp only [thenA, inBlockA, go_sem, *]))
 refine s_loop rfl (fun zn zN zenv zAs => ∃ (i : Nat) (dd : Dice) (acc : Plan), zn = (n) - i ∧ i ≤ (n) ∧ (StP houses (n - i) dd acc (RL, RD)) ∧ zN = 26 ∧ zenv = [(6, iV ((n - i : Nat) : Int)), (5, .ptr 2 0), (4, .ptr 1 0), (1, iV houses), (0, .ptr 0 0)] ∧ zAs = [diceBox dd, .box [nilV], .box [.own 3 1 0 acc.length], .box (acc.map encStreet)]) (n) ⟨[some 0, some 1, some 2, none], [], _, _, _, (by (simp only [Weak, go_sem, List.map_append, List.map_set, *] <;> (try simp (disch := omega) only [wrap_succ]) <;> (try simp) <;> (try omega))), 0, d0, [], (by simp), (by simp), (by exact h0), rfl, rfl, rfl⟩ ?_; rintro _ _ _ _ ⟨i, dd, acc, rfl, hi, hP, rfl, rfl, rfl⟩
 clear h0 st
 by_cases hi2 : i < n
 ·obtain ⟨k, hk⟩ : ∃ k, n - i = k + 1 := ⟨n - i - 1, by omega⟩
  have hk2 : n - (i + 1) = k := by omega
  rw [hk] at hP ⊢
  have hnx := hP.next
  have hw1 : IntKind.i64.wrap (((k + 1 : Nat) : Int) - 1) = (k : Int) := by rw [wrap_i64 (by omega) (by omega)]; omega
  have hgt : ((k + 1 : Nat) : Int) > 0 := by omega
  obtain ⟨_, hdl, hal⟩ := hP
  have s2 := sp_Once dd 3 hdl (by omega)
  have hol : (onceR 3 dd).list.length ≤ 4294967296 := by rw [onceR_list]; exact hdl
  unfold streetN at hnx
  generalize onceR 3 dd = d2 at *
  by_cases b : onceT 3 dd = true
  ·rw [if_pos b] at hnx
   rw [b] at s2
   clear b
   have s3 := sp_PlatesOf d2 0 hol (by omega)
   generalize platesOf d2 0 = L at *
   obtain ⟨l, d3⟩ := L
   have hnx2 : StP houses k d3 (acc ++ [l]) (RL, RD) := hnx
   clear hnx
   simp only at s3
   repeat' (first | (with_reducible (show runOps ..); first | (refine Qr rfl ?_; try intro K' hK; try simp only [go_sem, *])) | (with_reducible (show Hold ..); first | refine Qh rfl ?_ | refine s_draw rfl Tryz.mixed (by kernel_rfl) ?_ | (refine s_cond rfl ⟨_, rfl, fun hb => ?_, fun hb => ?_⟩ <;> (have hc := hb; try simp only [go_sem] at hc)) | refine s_ret rfl ?_) | (with_reducible (show callA ..); first | (refine call_of [0] [] (s2) (by simp) ?_ ?_ (by simp) (.inl rfl) ?_ ?_ ?_; (focus (simp only [go_sem, *]; done)); (focus (simp only [go_sem, *]; done)); (focus (first | (simp; done) | (simp [go_sem]; done))); (focus (first | (simp; done) | (simp [go_sem]; done))); simp only [go_sem, *]) | (refine call_of [0] [] (s3) (by simp) ?_ ?_ (by simp) (.inl rfl) ?_ ?_ ?_; (focus (simp only [go_sem, *]; done)); (focus (simp only [go_sem, *]; done)); (focus (first | (simp; done) | (simp [go_sem]; done))); (focus (first | (simp; done) | (simp [go_sem]; done))); simp only [go_sem, *])) | ((with_reducible refine Qb ?_ ?_); focus kernel_rfl) | ((with_reducible refine And.intro ?_ ?_); focus omega) | (refine contA_of hK ?_; clear hK K'; simp only [go_sem, *]) | (simp only [thenA, inBlockA, go_sem, *]))
   all_goals first | contradiction | skip
   refine ⟨_, (by omega), [some 0, some 1, some 2, some 5], [], _, _, _, (by (simp only [Weak, go_sem, List.map_append, List.map_set, *] <;> (try simp (disch := omega) only [wrap_succ]) <;> (try simp) <;> (try omega))), i + 1, d3, acc ++ [l], rfl, (by omega), (by rw [hk2]; exact hnx2), rfl, rfl, rfl⟩
  ·rw [if_neg b] at hnx
   rw [Bool.not_eq_true] at b
   rw [b] at s2
   clear b
   have s3 := sp_PlatesOf d2 houses hol hm
   generalize platesOf d2 houses = L at *
   obtain ⟨l, d3⟩ := L
   have hnx2 : StP houses k d3 (acc ++ [l]) (RL, RD) := hnx
   clear hnx
   simp only at s3
   repeat' (first | (with_reducible (show runOps ..); first | (refine Qr rfl ?_; try intro K' hK; try simp only [go_sem, *])) | (with_reducible (show Hold ..); first | refine Qh rfl ?_ | refine s_draw rfl Tryz.mixed (by kernel_rfl) ?_ | (refine s_cond rfl ⟨_, rfl, fun hb => ?_, fun hb => ?_⟩ <;> (have hc := hb; try simp only [go_sem] at hc)) | refine s_ret rfl ?_) | (with_reducible (show callA ..); first | (refine call_of [0] [] (s2) (by simp) ?_ ?_ (by simp) (.inl rfl) ?_ ?_ ?_; (focus (simp only [go_sem, *]; done)); (focus (simp only [go_sem, *]; done)); (focus (first | (simp; done) | (simp [go_sem]; done))); (focus (first | (simp; done) | (simp [go_sem]; done))); simp only [go_sem, *]) | (refine call_of [0] [] (s3) (by simp) ?_ ?_ (by simp) (.inl rfl) ?_ ?_ ?_; (focus (simp only [go_sem, *]; done)); (focus (simp only [go_sem, *]; done)); (focus (first | (simp; done) | (simp [go_sem]; done))); (focus (first | (simp; done) | (simp [go_sem]; done))); simp only [go_sem, *])) | ((with_reducible refine Qb ?_ ?_); focus kernel_rfl) | ((with_reducible refine And.intro ?_ ?_); focus omega) | (refine contA_of hK ?_; clear hK K'; simp only [go_sem, *]) | (simp only [thenA, inBlockA, go_sem, *]))
   all_goals first | contradiction | skip
   refine ⟨_, (by omega), [some 0, some 1, some 2, some 5], [], _, _, _, (by (simp only [Weak, go_sem, List.map_append, List.map_set, *] <;> (try simp (disch := omega) only [wrap_succ]) <;> (try simp) <;> (try omega))), i + 1, d3, acc ++ [l], rfl, (by omega), (by rw [hk2]; exact hnx2), rfl, rfl, rfl⟩
 ·have hni : n - i = 0 := by omega
  rw [hni] at hP ⊢
  obtain ⟨e, _, _⟩ := hP
  rw [streetsN] at e
  cases e
  repeat' (first | (with_reducible (show runOps ..); first | (refine Qr rfl ?_; try intro K' hK; try simp only [go_sem, *])) | (with_reducible (show Hold ..); first | refine Qh rfl ?_ | refine s_draw rfl Tryz.mixed (by kernel_rfl) ?_ | (refine s_cond rfl ⟨_, rfl, fun hb => ?_, fun hb => ?_⟩ <;> (have hc := hb; try simp only [go_sem] at hc)) | refine s_ret rfl ?_) | ((with_reducible refine Qb ?_ ?_); focus kernel_rfl) | ((with_reducible refine And.intro ?_ ?_); focus omega) | (refine contA_of hK ?_; clear hK K'; simp only [go_sem, *]) | (simp only [thenA, inBlockA, go_sem, *]))
  refine ⟨[.agg [.own 3 1 0 (List.length RL)]], [some 0], [3], ⟨by simp only [resOne, go_sem], trivial⟩, ?_⟩
  simp only [go_sem, *]
  simp
end Go.Abs

namespace Go.Abs
open Go Go.Proofs
set_option maxRecDepth 10000
set_option maxHeartbeats 4000000
theorem somePlate_list (d : Dice) (l : List Plate) : (somePlate d l).2.list = d.list := by
 unfold somePlate
 split
 ·exact toD_list _ _
 ·split
  ·show (fromD 1 9 (onceR 12 d)).list = _
   unfold fromD onceR; rw [toD_list, toD_list]
  ·show (toD _ (onceR 12 d)).list = _
   unfold onceR; rw [toD_list, toD_list]
theorem sp_plateOf (d : Dice) (l : List Plate) (h : d.list.length ≤ 4294967296) (hl : l.length ≤ 4294967296) :
  Spec Tryz.prog 86 [.ptr 0 0, encStreet l] [diceBox d] (Plate.enc (somePlate d l).1) [diceBox (somePlate d l).2] := by
 have ho : (onceR 12 d).list.length ≤ 4294967296 := by unfold onceR; rw [toD_list]; exact h
 by_cases q : l.length = 0
 ·have s1 := sp_From d 1 9 h (by omega) (by omega)
  have e : somePlate d l = (⟨fromN 1 9 d, 0⟩, fromD 1 9 d) := by unfold somePlate; rw [if_pos q]
  rw [e]
  have q2 : ((l.length : Int) == 0) = true := by rw [beq_iff_eq]; omega
  clear e
  generalize fromN 1 9 d = x1 at *
  generalize fromD 1 9 d = d1 at *
  refine spec_body Tryz.func86 rfl (fun E hE => ?_); simp only [go_sem, Tryz.ntmps86]
  repeat' (first | (with_reducible (show runOps ..); first | (refine Qr rfl ?_; try intro K' hK; try simp only [go_sem, *]) | (refine Qi rfl rfl rfl rfl (fun hb K' hK => ?_) (fun hb => ?_) <;> (have hc := hb; try simp only [go_sem] at hc; simp only [go_sem, *]))) | (with_reducible (show Hold ..); first | refine Qh rfl ?_ | (refine s_cond rfl ⟨_, rfl, fun hb => ?_, fun hb => ?_⟩ <;> (have hc := hb; try simp only [go_sem] at hc)) | refine s_ret rfl ?_) | (with_reducible (show callA ..); first | (refine call_of [0] [] (s1) (by simp) ?_ ?_ (by simp) (.inl rfl) ?_ ?_ ?_; (focus (simp only [go_sem, *]; done)); (focus (simp only [go_sem, *]; done)); (focus (first | (simp; done) | (simp [go_sem]; done))); (focus (first | (simp; done) | (simp [go_sem]; done))); simp only [go_sem, *])) | ((with_reducible refine Qb ?_ ?_); focus kernel_rfl) | ((with_reducible refine And.intro ?_ ?_); focus omega) | (refine contA_of hK ?_; clear hK K'; simp only [go_sem, *]) | (simp only [thenA, inBlockA, go_sem, *]))
  all_goals first | contradiction | skip
  refine ⟨[.agg [iV x1, iV 0]], [some 0], [], ⟨by simp only [resOne, go_sem], trivial⟩, ?_⟩
  simp only [go_sem, *]
 ·have q2 : ((l.length : Int) == 0) = false := by rw [beq_eq_false_iff_ne]; omega
  have so := sp_Once d 12 h (by omega)
  have e : somePlate d l = if onceT 12 d = true then (⟨fromN 1 9 (onceR 12 d), 0⟩, fromD 1 9 (onceR 12 d)) else (l.getD (toN (l.length - 1) (onceR 12 d)).toNat default, toD (l.length - 1) (onceR 12 d)) := by unfold somePlate; rw [if_neg q]
  rw [e]
  clear e
  generalize onceR 12 d = d1 at *
  by_cases b : onceT 12 d = true
  ·have s1 := sp_From d1 1 9 ho (by omega) (by omega)
   rw [if_pos b]
   rw [b] at so
   clear b
   generalize fromN 1 9 d1 = x1 at *
   generalize fromD 1 9 d1 = d2 at *
   refine spec_body Tryz.func86 rfl (fun E hE => ?_); simp only [go_sem, Tryz.ntmps86]
   repeat' (first | (with_reducible (show runOps ..); first | (refine Qr rfl ?_; try intro K' hK; try simp only [go_sem, *]) | (refine Qi rfl rfl rfl rfl (fun hb K' hK => ?_) (fun hb => ?_) <;> (have hc := hb; try simp only [go_sem] at hc; simp only [go_sem, *]))) | (with_reducible (show Hold ..); first | refine Qh rfl ?_ | (refine s_cond rfl ⟨_, rfl, fun hb => ?_, fun hb => ?_⟩ <;> (have hc := hb; try simp only [go_sem] at hc)) | refine s_ret rfl ?_) | (with_reducible (show callA ..); first | (refine call_of [0] [] (so) (by simp) ?_ ?_ (by simp) (.inl rfl) ?_ ?_ ?_; (focus (simp only [go_sem, *]; done)); (focus (simp only [go_sem, *]; done)); (focus (first | (simp; done) | (simp [go_sem]; done))); (focus (first | (simp; done) | (simp [go_sem]; done))); simp only [go_sem, *]) | (refine call_of [0] [] (s1) (by simp) ?_ ?_ (by simp) (.inl rfl) ?_ ?_ ?_; (focus (simp only [go_sem, *]; done)); (focus (simp only [go_sem, *]; done)); (focus (first | (simp; done) | (simp [go_sem]; done))); (focus (first | (simp; done) | (simp [go_sem]; done))); simp only [go_sem, *])) | ((with_reducible refine Qb ?_ ?_); focus kernel_rfl) | ((with_reducible refine And.intro ?_ ?_); focus omega) | (refine contA_of hK ?_; clear hK K'; simp only [go_sem, *]) | (simp only [thenA, inBlockA, go_sem, *]))
   all_goals first | contradiction | skip
   refine ⟨[.agg [iV x1, iV 0]], [some 0], [], ⟨by simp only [resOne, go_sem], trivial⟩, ?_⟩
   simp only [go_sem, *]
  ·rw [if_neg b]
   rw [Bool.not_eq_true] at b
   rw [b] at so
   clear b
   have s1 := sp_To d1 ((l.length : Int) - 1) ho (by omega)
   have hr := toN_le (n := (l.length : Int) - 1) (by omega) d1
   have hw : IntKind.i64.wrap ((l.length : Int) - 1) = (l.length : Int) - 1 := wrap_i64 (by omega) (by omega)
   obtain ⟨k, hk⟩ : ∃ k : Nat, toN ((l.length : Int) - 1) d1 = k := ⟨(toN ((l.length : Int) - 1) d1).toNat, by omega⟩
   rw [hk] at hr s1 ⊢
   have hkl : k < l.length := by omega
   simp only [Int.toNat_natCast]
   clear hk hr
   generalize toD ((l.length : Int) - 1) d1 = d2 at *
   refine spec_body Tryz.func86 rfl (fun E hE => ?_); simp only [go_sem, Tryz.ntmps86]
   repeat' (first | (with_reducible (show runOps ..); first | (refine Qr rfl ?_; try intro K' hK; try simp only [go_sem, *]) | (refine Qi rfl rfl rfl rfl (fun hb K' hK => ?_) (fun hb => ?_) <;> (have hc := hb; try simp only [go_sem] at hc; simp only [go_sem, *]))) | (with_reducible (show Hold ..); first | refine Qh rfl ?_ | (refine s_cond rfl ⟨_, rfl, fun hb => ?_, fun hb => ?_⟩ <;> (have hc := hb; try simp only [go_sem] at hc)) | refine s_ret rfl ?_) | (with_reducible (show callA ..); first | (refine call_of [0] [] (so) (by simp) ?_ ?_ (by simp) (.inl rfl) ?_ ?_ ?_; (focus (simp only [go_sem, *]; done)); (focus (simp only [go_sem, *]; done)); (focus (first | (simp; done) | (simp [go_sem]; done))); (focus (first | (simp; done) | (simp [go_sem]; done))); simp only [go_sem, *]) | (refine call_of [0] [] (s1) (by simp) ?_ ?_ (by simp) (.inl rfl) ?_ ?_ ?_; (focus (simp only [go_sem, *]; done)); (focus (simp only [go_sem, *]; done)); (focus (first | (simp; done) | (simp [go_sem]; done))); (focus (first | (simp; done) | (simp [go_sem]; done))); simp only [go_sem, *])) | ((with_reducible refine Qb ?_ ?_); focus kernel_rfl) | ((with_reducible refine And.intro ?_ ?_); focus omega) | (refine contA_of hK ?_; clear hK K'; simp only [go_sem, *]) | (simp only [thenA, inBlockA, go_sem, *]))
   all_goals first | contradiction | skip
   refine ⟨[(l.getD k default).enc], [some 0], [], ⟨by simp only [resOne, go_sem], trivial⟩, ?_⟩
   simp only [go_sem, *]
end Go.Abs

namespace Go.Abs
open Go Go.Proofs
set_option maxRecDepth 10000
set_option maxHeartbeats 4000000
theorem changeAt_list (d : Dice) (p : Plan) (k s : Int) : (changeAt d p k s).2.list = d.list := by
 unfold changeAt fromD
 split
 ·exact toD_list _ _
 ·split
  ·simp only
   split <;> simp only [somePlate_list, toD_list]
  ·split
   ·simp only [somePlate_list]
   ·rfl
theorem changeOf_list (d : Dice) (p : Plan) : (changeOf d p).2.list = d.list := by
 unfold changeOf fromD; rw [changeAt_list, toD_list, toD_list]
theorem sp_ChangeOf (d : Dice) (p : Plan) (h : d.list.length ≤ 4294967296) (v : Valid p) :
  Spec Tryz.prog 23 [.ptr 0 0, encPlan p] [diceBox d] (Change.enc (changeOf d p).1) [diceBox (changeOf d p).2] := by
 have hp0 := v.ne
 have hp3 := v.len
 have s1 := sp_From d 1 7 h (by omega) (by omega)
 have s2 := sp_To (fromD 1 7 d) ((p.length : Int) - 1) (by unfold fromD; rw [toD_list]; exact h) (by omega)
 have hr1 := fromN_le (lo := 1) (hi := 7) (by omega) d
 have hr2 := toN_le (n := (p.length : Int) - 1) (by omega) (fromD 1 7 d)
 have hl2 : (toD ((p.length : Int) - 1) (fromD 1 7 d)).list.length ≤ 4294967296 := by unfold fromD; rw [toD_list, toD_list]; exact h
 have hw0 : IntKind.i64.wrap ((p.length : Int) - 1) = (p.length : Int) - 1 := wrap_i64 (by omega) (by omega)
 unfold changeOf
 obtain ⟨s, hs⟩ : ∃ s : Nat, toN ((p.length : Int) - 1) (fromD 1 7 d) = s := ⟨(toN ((p.length : Int) - 1) (fromD 1 7 d)).toNat, by omega⟩
 rw [hs] at hr2 s2 ⊢
 clear hs
 generalize toD ((p.length : Int) - 1) (fromD 1 7 d) = d2 at *
 generalize fromD 1 7 d = d1 at *
 generalize fromN 1 7 d = k at *
 have hsl : s < p.length := by omega
 have hrow : (rowAt p (s : Int)).length ≤ 8 := (v.row _).len
 have hgd : List.getD p s default = rowAt p (s : Int) := rfl
 unfold changeAt
 by_cases k4 : k = 4
 ·rw [if_pos k4]
  subst k4
  have s3 := sp_From d2 1 2 hl2 (by omega) (by omega)
  have hr3 := fromN_le (lo := 1) (hi := 2) (by omega) d2
  generalize fromN 1 2 d2 = x at *
  generalize fromD 1 2 d2 = d3 at *
  have s4 := sp_Mod ((s : Int) + x) (p.length : Int) (by omega) (by omega)
  have hw1 : IntKind.i64.wrap ((s : Int) + x) = (s : Int) + x := wrap_i64 (by omega) (by omega)
  generalize ((s : Int) + x) % (p.length : Int) = o at *
  refine spec_body Tryz.func23 rfl (fun E hE => ?_); simp only [go_sem, Tryz.ntmps23]
  repeat' (first | (with_reducible (show runOps ..); first | (refine Qr rfl ?_; try intro K' hK; try simp only [go_sem, *])) | (with_reducible (show Hold ..); first | refine Qh rfl ?_ | refine s_draw rfl Tryz.mixed (by kernel_rfl) ?_ | (refine s_cond rfl ⟨_, rfl, fun hb => ?_, fun hb => ?_⟩ <;> (have hc := hb; try simp only [go_sem] at hc)) | refine s_ret rfl ?_) | (with_reducible (show callA ..); first | (refine call_of [0] [] (s1) (by simp) ?_ ?_ (by simp) (.inl rfl) ?_ ?_ ?_; (focus (simp only [go_sem, *]; done)); (focus (simp only [go_sem, *]; done)); (focus (first | (simp; done) | (simp [go_sem]; done))); (focus (first | (simp; done) | (simp [go_sem]; done))); simp only [go_sem, *]) | (refine call_of [0] [] (s2) (by simp) ?_ ?_ (by simp) (.inl rfl) ?_ ?_ ?_; (focus (simp only [go_sem, *]; done)); (focus (simp only [go_sem, *]; done)); (focus (first | (simp; done) | (simp [go_sem]; done))); (focus (first | (simp; done) | (simp [go_sem]; done))); simp only [go_sem, *]) | (refine call_of [0] [] (s3) (by simp) ?_ ?_ (by simp) (.inl rfl) ?_ ?_ ?_; (focus (simp only [go_sem, *]; done)); (focus (simp only [go_sem, *]; done)); (focus (first | (simp; done) | (simp [go_sem]; done))); (focus (first | (simp; done) | (simp [go_sem]; done))); simp only [go_sem, *]) | (refine call_s (s4) ?_ ?_; (focus (simp only [go_sem, *]; done)); simp only [go_sem, *])) | ((with_reducible refine Qb ?_ ?_); focus kernel_rfl) | ((with_reducible refine And.intro ?_ ?_); focus omega) | (refine contA_of hK ?_; clear hK K'; simp only [go_sem, *]) | (simp only [thenA, inBlockA, go_sem, *]))
  all_goals first | contradiction | skip
  refine ⟨[.agg [iV 4, iV s, iV o, iV 0, iV 0, iV 0, iV 0]], [some 0], [], ⟨by simp only [resOne, go_sem], trivial⟩, ?_⟩
  simp only [go_sem, zeroPlate, *]
 rw [if_neg k4]
 have k4' : (k == 4) = false := by rw [beq_eq_false_iff_ne]; exact k4
 by_cases k7 : k = 7
 ·rw [if_pos k7]
  subst k7
  have s3 := sp_From d2 1 2 hl2 (by omega) (by omega)
  have hr3 := fromN_le (lo := 1) (hi := 2) (by omega) d2
  have hl3 : (fromD 1 2 d2).list.length ≤ 4294967296 := by unfold fromD; rw [toD_list]; exact hl2
  generalize fromN 1 2 d2 = x at *
  generalize fromD 1 2 d2 = d3 at *
  have s4 := sp_Mod ((s : Int) + x) (p.length : Int) (by omega) (by omega)
  have hw1 : IntKind.i64.wrap ((s : Int) + x) = (s : Int) + x := wrap_i64 (by omega) (by omega)
  generalize ((s : Int) + x) % (p.length : Int) = o at *
  simp only
  have sa := sp_plateOf d3 (rowAt p (s : Int)) hl3 (by omega)
  have hla : (somePlate d3 (rowAt p (s : Int))).2.list.length ≤ 4294967296 := by rw [somePlate_list]; exact hl3
  generalize somePlate d3 (rowAt p (s : Int)) = A at *
  obtain ⟨a, d4⟩ := A
  simp only at sa hla ⊢
  have sb := sp_plateOf d4 (rowAt p (s : Int)) hla (by omega)
  generalize somePlate d4 (rowAt p (s : Int)) = B at *
  obtain ⟨b, d5⟩ := B
  simp only at sb ⊢
  have sc := sp_before b a
  by_cases hlt : b.lt a = true
  ·rw [if_pos hlt]
   rw [hlt] at sc
   clear hlt
   refine spec_body Tryz.func23 rfl (fun E hE => ?_); simp only [go_sem, Tryz.ntmps23]
   repeat' (first | (with_reducible (show runOps ..); first | (refine Qr rfl ?_; try intro K' hK; try simp only [go_sem, *])) | (with_reducible (show Hold ..); first | refine Qh rfl ?_ | refine s_draw rfl Tryz.mixed (by kernel_rfl) ?_ | (refine s_cond rfl ⟨_, rfl, fun hb => ?_, fun hb => ?_⟩ <;> (have hc := hb; try simp only [go_sem] at hc)) | refine s_ret rfl ?_) | (with_reducible (show callA ..); first | ((first | refine call_s (s4) ?_ ?_ | refine call_s (sc) ?_ ?_); (focus (simp only [go_sem, *]; done)); simp only [go_sem, *]) | (refine call_of [0] [] (s1) (by simp) ?_ ?_ (by simp) (.inl rfl) ?_ ?_ ?_; (focus (simp only [go_sem, *]; done)); (focus (simp only [go_sem, *]; done)); (focus (first | (simp; done) | (simp [go_sem]; done))); (focus (first | (simp; done) | (simp [go_sem]; done))); simp only [go_sem, *]) | (refine call_of [0] [] (s2) (by simp) ?_ ?_ (by simp) (.inl rfl) ?_ ?_ ?_; (focus (simp only [go_sem, *]; done)); (focus (simp only [go_sem, *]; done)); (focus (first | (simp; done) | (simp [go_sem]; done))); (focus (first | (simp; done) | (simp [go_sem]; done))); simp only [go_sem, *]) | (refine call_of [0] [] (s3) (by simp) ?_ ?_ (by simp) (.inl rfl) ?_ ?_ ?_; (focus (simp only [go_sem, *]; done)); (focus (simp only [go_sem, *]; done)); (focus (first | (simp; done) | (simp [go_sem]; done))); (focus (first | (simp; done) | (simp [go_sem]; done))); simp only [go_sem, *]) | (refine call_of [0] [] (sa) (by simp) ?_ ?_ (by simp) (.inl rfl) ?_ ?_ ?_; (focus (simp only [go_sem, *]; done)); (focus (simp only [go_sem, *]; done)); (focus (first | (simp; done) | (simp [go_sem]; done))); (focus (first | (simp; done) | (simp [go_sem]; done))); simp only [go_sem, *]) | (refine call_of [0] [] (sb) (by simp) ?_ ?_ (by simp) (.inl rfl) ?_ ?_ ?_; (focus (simp only [go_sem, *]; done)); (focus (simp only [go_sem, *]; done)); (focus (first | (simp; done) | (simp [go_sem]; done))); (focus (first | (simp; done) | (simp [go_sem]; done))); simp only [go_sem, *])) | ((with_reducible refine Qb ?_ ?_); focus kernel_rfl) | ((with_reducible refine And.intro ?_ ?_); focus omega) | (refine contA_of hK ?_; clear hK K'; simp only [go_sem, *]) | (simp only [thenA, inBlockA, go_sem, *]))
   all_goals first | contradiction | skip
   refine ⟨[.agg [iV 7, iV s, iV o, iV b.number, iV b.letter, iV a.number, iV a.letter]], [some 0], [], ⟨by simp only [resOne, go_sem], trivial⟩, ?_⟩
   simp only [go_sem, zeroPlate, *]
  ·rw [if_neg hlt]
   rw [Bool.not_eq_true] at hlt
   rw [hlt] at sc
   clear hlt
   refine spec_body Tryz.func23 rfl (fun E hE => ?_); simp only [go_sem, Tryz.ntmps23]
   repeat' (first | (with_reducible (show runOps ..); first | (refine Qr rfl ?_; try intro K' hK; try simp only [go_sem, *])) | (with_reducible (show Hold ..); first | refine Qh rfl ?_ | refine s_draw rfl Tryz.mixed (by kernel_rfl) ?_ | (refine s_cond rfl ⟨_, rfl, fun hb => ?_, fun hb => ?_⟩ <;> (have hc := hb; try simp only [go_sem] at hc)) | refine s_ret rfl ?_) | (with_reducible (show callA ..); first | ((first | refine call_s (s4) ?_ ?_ | refine call_s (sc) ?_ ?_); (focus (simp only [go_sem, *]; done)); simp only [go_sem, *]) | (refine call_of [0] [] (s1) (by simp) ?_ ?_ (by simp) (.inl rfl) ?_ ?_ ?_; (focus (simp only [go_sem, *]; done)); (focus (simp only [go_sem, *]; done)); (focus (first | (simp; done) | (simp [go_sem]; done))); (focus (first | (simp; done) | (simp [go_sem]; done))); simp only [go_sem, *]) | (refine call_of [0] [] (s2) (by simp) ?_ ?_ (by simp) (.inl rfl) ?_ ?_ ?_; (focus (simp only [go_sem, *]; done)); (focus (simp only [go_sem, *]; done)); (focus (first | (simp; done) | (simp [go_sem]; done))); (focus (first | (simp; done) | (simp [go_sem]; done))); simp only [go_sem, *]) | (refine call_of [0] [] (s3) (by simp) ?_ ?_ (by simp) (.inl rfl) ?_ ?_ ?_; (focus (simp only [go_sem, *]; done)); (focus (simp only [go_sem, *]; done)); (focus (first | (simp; done) | (simp [go_sem]; done))); (focus (first | (simp; done) | (simp [go_sem]; done))); simp only [go_sem, *]) | (refine call_of [0] [] (sa) (by simp) ?_ ?_ (by simp) (.inl rfl) ?_ ?_ ?_; (focus (simp only [go_sem, *]; done)); (focus (simp only [go_sem, *]; done)); (focus (first | (simp; done) | (simp [go_sem]; done))); (focus (first | (simp; done) | (simp [go_sem]; done))); simp only [go_sem, *]) | (refine call_of [0] [] (sb) (by simp) ?_ ?_ (by simp) (.inl rfl) ?_ ?_ ?_; (focus (simp only [go_sem, *]; done)); (focus (simp only [go_sem, *]; done)); (focus (first | (simp; done) | (simp [go_sem]; done))); (focus (first | (simp; done) | (simp [go_sem]; done))); simp only [go_sem, *])) | ((with_reducible refine Qb ?_ ?_); focus kernel_rfl) | ((with_reducible refine And.intro ?_ ?_); focus omega) | (refine contA_of hK ?_; clear hK K'; simp only [go_sem, *]) | (simp only [thenA, inBlockA, go_sem, *]))
   all_goals first | contradiction | skip
   refine ⟨[.agg [iV 7, iV s, iV o, iV a.number, iV a.letter, iV b.number, iV b.letter]], [some 0], [], ⟨by simp only [resOne, go_sem], trivial⟩, ?_⟩
   simp only [go_sem, zeroPlate, *]
 rw [if_neg k7]
 have k7' : (k == 7) = false := by rw [beq_eq_false_iff_ne]; exact k7
 by_cases k56 : k = 5 ∨ k = 6
 ·rw [if_pos k56]
  simp only
  have sa := sp_plateOf d2 (rowAt p (s : Int)) hl2 (by omega)
  generalize somePlate d2 (rowAt p (s : Int)) = A at *
  obtain ⟨a, d4⟩ := A
  simp only at sa ⊢
  rcases k56 with k5 | k6
  ·subst k5
   clear k4 k7
   refine spec_body Tryz.func23 rfl (fun E hE => ?_); simp only [go_sem, Tryz.ntmps23]
   repeat' (first | (with_reducible (show runOps ..); first | (refine Qr rfl ?_; try intro K' hK; try simp only [go_sem, *])) | (with_reducible (show Hold ..); first | refine Qh rfl ?_ | refine s_draw rfl Tryz.mixed (by kernel_rfl) ?_ | (refine s_cond rfl ⟨_, rfl, fun hb => ?_, fun hb => ?_⟩ <;> (have hc := hb; try simp only [go_sem] at hc)) | refine s_ret rfl ?_) | (with_reducible (show callA ..); first | (refine call_of [0] [] (s1) (by simp) ?_ ?_ (by simp) (.inl rfl) ?_ ?_ ?_; (focus (simp only [go_sem, *]; done)); (focus (simp only [go_sem, *]; done)); (focus (first | (simp; done) | (simp [go_sem]; done))); (focus (first | (simp; done) | (simp [go_sem]; done))); simp only [go_sem, *]) | (refine call_of [0] [] (s2) (by simp) ?_ ?_ (by simp) (.inl rfl) ?_ ?_ ?_; (focus (simp only [go_sem, *]; done)); (focus (simp only [go_sem, *]; done)); (focus (first | (simp; done) | (simp [go_sem]; done))); (focus (first | (simp; done) | (simp [go_sem]; done))); simp only [go_sem, *]) | (refine call_of [0] [] (sa) (by simp) ?_ ?_ (by simp) (.inl rfl) ?_ ?_ ?_; (focus (simp only [go_sem, *]; done)); (focus (simp only [go_sem, *]; done)); (focus (first | (simp; done) | (simp [go_sem]; done))); (focus (first | (simp; done) | (simp [go_sem]; done))); simp only [go_sem, *])) | ((with_reducible refine Qb ?_ ?_); focus kernel_rfl) | ((with_reducible refine And.intro ?_ ?_); focus omega) | (refine contA_of hK ?_; clear hK K'; simp only [go_sem, *]) | (simp only [thenA, inBlockA, go_sem, *]))
   all_goals first | contradiction | skip
   refine ⟨[.agg [iV 5, iV s, iV 0, iV a.number, iV a.letter, iV 0, iV 0]], [some 0], [], ⟨by simp only [resOne, go_sem], trivial⟩, ?_⟩
   simp only [go_sem, zeroPlate, *]
  ·subst k6
   clear k4 k7
   refine spec_body Tryz.func23 rfl (fun E hE => ?_); simp only [go_sem, Tryz.ntmps23]
   repeat' (first | (with_reducible (show runOps ..); first | (refine Qr rfl ?_; try intro K' hK; try simp only [go_sem, *])) | (with_reducible (show Hold ..); first | refine Qh rfl ?_ | refine s_draw rfl Tryz.mixed (by kernel_rfl) ?_ | (refine s_cond rfl ⟨_, rfl, fun hb => ?_, fun hb => ?_⟩ <;> (have hc := hb; try simp only [go_sem] at hc)) | refine s_ret rfl ?_) | (with_reducible (show callA ..); first | (refine call_of [0] [] (s1) (by simp) ?_ ?_ (by simp) (.inl rfl) ?_ ?_ ?_; (focus (simp only [go_sem, *]; done)); (focus (simp only [go_sem, *]; done)); (focus (first | (simp; done) | (simp [go_sem]; done))); (focus (first | (simp; done) | (simp [go_sem]; done))); simp only [go_sem, *]) | (refine call_of [0] [] (s2) (by simp) ?_ ?_ (by simp) (.inl rfl) ?_ ?_ ?_; (focus (simp only [go_sem, *]; done)); (focus (simp only [go_sem, *]; done)); (focus (first | (simp; done) | (simp [go_sem]; done))); (focus (first | (simp; done) | (simp [go_sem]; done))); simp only [go_sem, *]) | (refine call_of [0] [] (sa) (by simp) ?_ ?_ (by simp) (.inl rfl) ?_ ?_ ?_; (focus (simp only [go_sem, *]; done)); (focus (simp only [go_sem, *]; done)); (focus (first | (simp; done) | (simp [go_sem]; done))); (focus (first | (simp; done) | (simp [go_sem]; done))); simp only [go_sem, *])) | ((with_reducible refine Qb ?_ ?_); focus kernel_rfl) | ((with_reducible refine And.intro ?_ ?_); focus omega) | (refine contA_of hK ?_; clear hK K'; simp only [go_sem, *]) | (simp only [thenA, inBlockA, go_sem, *]))
   all_goals first | contradiction | skip
   refine ⟨[.agg [iV 6, iV s, iV 0, iV a.number, iV a.letter, iV 0, iV 0]], [some 0], [], ⟨by simp only [resOne, go_sem], trivial⟩, ?_⟩
   simp only [go_sem, zeroPlate, *]
 ·rw [if_neg k56]
  have k5' : (k == 5) = false := by rw [beq_eq_false_iff_ne]; omega
  have k6' : (k == 6) = false := by rw [beq_eq_false_iff_ne]; omega
  clear k4 k7 k56
  refine spec_body Tryz.func23 rfl (fun E hE => ?_); simp only [go_sem, Tryz.ntmps23]
  repeat' (first | (with_reducible (show runOps ..); first | (refine Qr rfl ?_; try intro K' hK; try simp only [go_sem, *])) | (with_reducible (show Hold ..); first | refine Qh rfl ?_ | refine s_draw rfl Tryz.mixed (by kernel_rfl) ?_ | (refine s_cond rfl ⟨_, rfl, fun hb => ?_, fun hb => ?_⟩ <;> (have hc := hb; try simp only [go_sem] at hc)) | refine s_ret rfl ?_) | (with_reducible (show callA ..); first | (refine call_of [0] [] (s1) (by simp) ?_ ?_ (by simp) (.inl rfl) ?_ ?_ ?_; (focus (simp only [go_sem, *]; done)); (focus (simp only [go_sem, *]; done)); (focus (first | (simp; done) | (simp [go_sem]; done))); (focus (first | (simp; done) | (simp [go_sem]; done))); simp only [go_sem, *]) | (refine call_of [0] [] (s2) (by simp) ?_ ?_ (by simp) (.inl rfl) ?_ ?_ ?_; (focus (simp only [go_sem, *]; done)); (focus (simp only [go_sem, *]; done)); (focus (first | (simp; done) | (simp [go_sem]; done))); (focus (first | (simp; done) | (simp [go_sem]; done))); simp only [go_sem, *])) | ((with_reducible refine Qb ?_ ?_); focus kernel_rfl) | ((with_reducible refine And.intro ?_ ?_); focus omega) | (refine contA_of hK ?_; clear hK K'; simp only [go_sem, *]) | (simp only [thenA, inBlockA, go_sem, *]))
  all_goals first | contradiction | skip
  refine ⟨[.agg [iV k, iV s, iV 0, iV 0, iV 0, iV 0, iV 0]], [some 0], [], ⟨by simp only [resOne, go_sem], trivial⟩, ?_⟩
  simp only [go_sem, zeroPlate, *]
end Go.Abs

namespace Go.Abs
open Go Go.Proofs
set_option maxRecDepth 10000
set_option maxHeartbeats 4000000
def AtH (x : House) (acc : List House) (j : Nat) : Prop := ∀ m, m < j → (acc.getD m default).lt x = true
theorem AtH.next {x : House} {acc : List House} {j : Nat} (h : AtH x acc j) (hx : (acc.getD j default).lt x = true) : AtH x acc (j + 1) := fun m hm => by
 rcases Nat.lt_succ_iff_lt_or_eq.1 hm with h1 | rfl
 ·exact h m h1
 ·exact hx
def SoP (l : List House) (i : Nat) (acc R : List House) : Prop := (l.drop i).foldl (fun out x => insH x out) acc = R ∧ acc.length ≤ i
theorem SoP.next {l : List House} {i : Nat} {acc R : List House} (h : SoP l i acc R) (hi : i < l.length) : SoP l (i + 1) (insH (l.getD i default) acc) R := by
 obtain ⟨h1, h2⟩ := h
 rw [drop_cons hi, List.foldl_cons] at h1
 exact ⟨h1, by have := insH_len (x := l.getD i default) (l := acc); omega⟩
end Go.Abs

namespace Go.Abs
open Go Go.Proofs
set_option maxRecDepth 10000
set_option maxHeartbeats 4000000
def bkt (L : List House) (i s : Nat) : List Plate := ((L.take i).filter (fun h => h.street == (s : Int))).map House.plate
end Go.Abs

namespace Go.Abs
open Go Go.Proofs
set_option maxRecDepth 10000
set_option maxHeartbeats 4000000
theorem named_kind (p : Plan) (c : Change) (hp : p.length ≤ 4294967296) (h1 : betw c.kind 1 7 = false) : Spec Tryz.prog 132 [encPlan p, c.enc] [] (.tup [iV 8, .agg [iV c.kind, iV c.street, iV 0, iV 0, iV 0, iV 0, iV 0]]) [] := by
 have hw : IntKind.i64.wrap ((p.length : Int) - 1) = (p.length : Int) - 1 := wrap_i64 (by omega) (by omega)
 have s1 := sp_within c.kind 1 7
 rw [h1] at s1
 refine spec_body Tryz.func132 rfl (fun E hE => ?_); simp only [go_sem, Tryz.ntmps132]
 repeat' (first | (with_reducible (show runOps ..); first | (refine Qr rfl ?_; try intro K' hK; try simp only [go_sem, *])) | (with_reducible (show Hold ..); first | refine Qh rfl ?_ | refine s_draw rfl Tryz.mixed (by kernel_rfl) ?_ | (refine s_cond rfl ⟨_, rfl, fun hb => ?_, fun hb => ?_⟩ <;> (have hc := hb; try simp only [go_sem] at hc)) | refine s_ret rfl ?_) | (with_reducible (show callA ..); first | (refine call_s (s1) ?_ ?_; (focus (simp only [go_sem, *]; done)); simp only [go_sem, *])) | ((with_reducible refine Qb ?_ ?_); focus kernel_rfl) | ((with_reducible refine And.intro ?_ ?_); focus omega) | (refine contA_of hK ?_; clear hK K'; simp only [go_sem, *]) | (simp only [thenA, inBlockA, go_sem, *]))
 all_goals first | contradiction | skip
 refine ⟨[iV 8, .agg [iV c.kind, iV c.street, iV 0, iV 0, iV 0, iV 0, iV 0]], [], [], ⟨rfl, by simp only [resOne, go_sem], trivial⟩, ?_⟩
 simp only [go_sem, *]
theorem named_street (p : Plan) (c : Change) (hp : p.length ≤ 4294967296) (h1 : betw c.kind 1 7 = true) (h2 : betw c.street 0 ((p.length : Int) - 1) = false) : Spec Tryz.prog 132 [encPlan p, c.enc] [] (.tup [iV 3, .agg [iV c.kind, iV c.street, iV 0, iV 0, iV 0, iV 0, iV 0]]) [] := by
 have hw : IntKind.i64.wrap ((p.length : Int) - 1) = (p.length : Int) - 1 := wrap_i64 (by omega) (by omega)
 have s1 := sp_within c.kind 1 7
 rw [h1] at s1
 have s2 := sp_within c.street 0 ((p.length : Int) - 1)
 rw [h2] at s2
 refine spec_body Tryz.func132 rfl (fun E hE => ?_); simp only [go_sem, Tryz.ntmps132]
 repeat' (first | (with_reducible (show runOps ..); first | (refine Qr rfl ?_; try intro K' hK; try simp only [go_sem, *])) | (with_reducible (show Hold ..); first | refine Qh rfl ?_ | refine s_draw rfl Tryz.mixed (by kernel_rfl) ?_ | (refine s_cond rfl ⟨_, rfl, fun hb => ?_, fun hb => ?_⟩ <;> (have hc := hb; try simp only [go_sem] at hc)) | refine s_ret rfl ?_) | (with_reducible (show callA ..); first | ((first | refine call_s (s1) ?_ ?_ | refine call_s (s2) ?_ ?_); (focus (simp only [go_sem, *]; done)); simp only [go_sem, *])) | ((with_reducible refine Qb ?_ ?_); focus kernel_rfl) | ((with_reducible refine And.intro ?_ ?_); focus omega) | (refine contA_of hK ?_; clear hK K'; simp only [go_sem, *]) | (simp only [thenA, inBlockA, go_sem, *]))
 all_goals first | contradiction | skip
 refine ⟨[iV 3, .agg [iV c.kind, iV c.street, iV 0, iV 0, iV 0, iV 0, iV 0]], [], [], ⟨rfl, by simp only [resOne, go_sem], trivial⟩, ?_⟩
 simp only [go_sem, *]
theorem named_out4 (p : Plan) (c : Change) (hp : p.length ≤ 4294967296) (h1 : betw c.kind 1 7 = true) (h2 : betw c.street 0 ((p.length : Int) - 1) = true) (k4 : (c.kind == 4) = true) (k5 : (c.kind == 5) = false) (k6 : (c.kind == 6) = false) (k7 : (c.kind == 7) = false) (h3 : betw c.other 0 ((p.length : Int) - 1) = false) : Spec Tryz.prog 132 [encPlan p, c.enc] [] (.tup [iV 3, .agg [iV c.kind, iV c.street, iV c.other, iV 0, iV 0, iV 0, iV 0]]) [] := by
 have hw : IntKind.i64.wrap ((p.length : Int) - 1) = (p.length : Int) - 1 := wrap_i64 (by omega) (by omega)
 have s1 := sp_within c.kind 1 7
 rw [h1] at s1
 have s2 := sp_within c.street 0 ((p.length : Int) - 1)
 rw [h2] at s2
 have s3 := sp_within c.other 0 ((p.length : Int) - 1)
 rw [h3] at s3
 refine spec_body Tryz.func132 rfl (fun E hE => ?_); simp only [go_sem, Tryz.ntmps132]
 repeat' (first | (with_reducible (show runOps ..); first | (refine Qr rfl ?_; try intro K' hK; try simp only [go_sem, *])) | (with_reducible (show Hold ..); first | refine Qh rfl ?_ | refine s_draw rfl Tryz.mixed (by kernel_rfl) ?_ | (refine s_cond rfl ⟨_, rfl, fun hb => ?_, fun hb => ?_⟩ <;> (have hc := hb; try simp only [go_sem] at hc)) | refine s_ret rfl ?_) | (with_reducible (show callA ..); first | ((first | refine call_s (s1) ?_ ?_ | refine call_s (s2) ?_ ?_ | refine call_s (s3) ?_ ?_); (focus (simp only [go_sem, *]; done)); simp only [go_sem, *])) | ((with_reducible refine Qb ?_ ?_); focus kernel_rfl) | ((with_reducible refine And.intro ?_ ?_); focus omega) | (refine contA_of hK ?_; clear hK K'; simp only [go_sem, *]) | (simp only [thenA, inBlockA, go_sem, *]))
 all_goals first | contradiction | skip
 refine ⟨[iV 3, .agg [iV c.kind, iV c.street, iV c.other, iV 0, iV 0, iV 0, iV 0]], [], [], ⟨rfl, by simp only [resOne, go_sem], trivial⟩, ?_⟩
 simp only [go_sem, *]
theorem named_same4 (p : Plan) (c : Change) (hp : p.length ≤ 4294967296) (h1 : betw c.kind 1 7 = true) (h2 : betw c.street 0 ((p.length : Int) - 1) = true) (k4 : (c.kind == 4) = true) (k5 : (c.kind == 5) = false) (k6 : (c.kind == 6) = false) (k7 : (c.kind == 7) = false) (h3 : betw c.other 0 ((p.length : Int) - 1) = true) (h4 : (c.other == c.street) = true) : Spec Tryz.prog 132 [encPlan p, c.enc] [] (.tup [iV 4, .agg [iV c.kind, iV c.street, iV c.other, iV 0, iV 0, iV 0, iV 0]]) [] := by
 have hw : IntKind.i64.wrap ((p.length : Int) - 1) = (p.length : Int) - 1 := wrap_i64 (by omega) (by omega)
 have s1 := sp_within c.kind 1 7
 rw [h1] at s1
 have s2 := sp_within c.street 0 ((p.length : Int) - 1)
 rw [h2] at s2
 have s3 := sp_within c.other 0 ((p.length : Int) - 1)
 rw [h3] at s3
 refine spec_body Tryz.func132 rfl (fun E hE => ?_); simp only [go_sem, Tryz.ntmps132]
 repeat' (first | (with_reducible (show runOps ..); first | (refine Qr rfl ?_; try intro K' hK; try simp only [go_sem, *])) | (with_reducible (show Hold ..); first | refine Qh rfl ?_ | refine s_draw rfl Tryz.mixed (by kernel_rfl) ?_ | (refine s_cond rfl ⟨_, rfl, fun hb => ?_, fun hb => ?_⟩ <;> (have hc := hb; try simp only [go_sem] at hc)) | refine s_ret rfl ?_) | (with_reducible (show callA ..); first | ((first | refine call_s (s1) ?_ ?_ | refine call_s (s2) ?_ ?_ | refine call_s (s3) ?_ ?_); (focus (simp only [go_sem, *]; done)); simp only [go_sem, *])) | ((with_reducible refine Qb ?_ ?_); focus kernel_rfl) | ((with_reducible refine And.intro ?_ ?_); focus omega) | (refine contA_of hK ?_; clear hK K'; simp only [go_sem, *]) | (simp only [thenA, inBlockA, go_sem, *]))
 all_goals first | contradiction | skip
 refine ⟨[iV 4, .agg [iV c.kind, iV c.street, iV c.other, iV 0, iV 0, iV 0, iV 0]], [], [], ⟨rfl, by simp only [resOne, go_sem], trivial⟩, ?_⟩
 simp only [go_sem, *]
theorem named_out7 (p : Plan) (c : Change) (hp : p.length ≤ 4294967296) (h1 : betw c.kind 1 7 = true) (h2 : betw c.street 0 ((p.length : Int) - 1) = true) (k4 : (c.kind == 4) = false) (k5 : (c.kind == 5) = false) (k6 : (c.kind == 6) = false) (k7 : (c.kind == 7) = true) (h3 : betw c.other 0 ((p.length : Int) - 1) = false) : Spec Tryz.prog 132 [encPlan p, c.enc] [] (.tup [iV 3, .agg [iV c.kind, iV c.street, iV c.other, iV 0, iV 0, iV 0, iV 0]]) [] := by
 have hw : IntKind.i64.wrap ((p.length : Int) - 1) = (p.length : Int) - 1 := wrap_i64 (by omega) (by omega)
 have s1 := sp_within c.kind 1 7
 rw [h1] at s1
 have s2 := sp_within c.street 0 ((p.length : Int) - 1)
 rw [h2] at s2
 have s3 := sp_within c.other 0 ((p.length : Int) - 1)
 rw [h3] at s3
 refine spec_body Tryz.func132 rfl (fun E hE => ?_); simp only [go_sem, Tryz.ntmps132]
 repeat' (first | (with_reducible (show runOps ..); first | (refine Qr rfl ?_; try intro K' hK; try simp only [go_sem, *])) | (with_reducible (show Hold ..); first | refine Qh rfl ?_ | refine s_draw rfl Tryz.mixed (by kernel_rfl) ?_ | (refine s_cond rfl ⟨_, rfl, fun hb => ?_, fun hb => ?_⟩ <;> (have hc := hb; try simp only [go_sem] at hc)) | refine s_ret rfl ?_) | (with_reducible (show callA ..); first | ((first | refine call_s (s1) ?_ ?_ | refine call_s (s2) ?_ ?_ | refine call_s (s3) ?_ ?_); (focus (simp only [go_sem, *]; done)); simp only [go_sem, *])) | ((with_reducible refine Qb ?_ ?_); focus kernel_rfl) | ((with_reducible refine And.intro ?_ ?_); focus omega) | (refine contA_of hK ?_; clear hK K'; simp only [go_sem, *]) | (simp only [thenA, inBlockA, go_sem, *]))
 all_goals first | contradiction | skip
 refine ⟨[iV 3, .agg [iV c.kind, iV c.street, iV c.other, iV 0, iV 0, iV 0, iV 0]], [], [], ⟨rfl, by simp only [resOne, go_sem], trivial⟩, ?_⟩
 simp only [go_sem, *]
theorem named_same7 (p : Plan) (c : Change) (hp : p.length ≤ 4294967296) (h1 : betw c.kind 1 7 = true) (h2 : betw c.street 0 ((p.length : Int) - 1) = true) (k4 : (c.kind == 4) = false) (k5 : (c.kind == 5) = false) (k6 : (c.kind == 6) = false) (k7 : (c.kind == 7) = true) (h3 : betw c.other 0 ((p.length : Int) - 1) = true) (h4 : (c.other == c.street) = true) : Spec Tryz.prog 132 [encPlan p, c.enc] [] (.tup [iV 4, .agg [iV c.kind, iV c.street, iV c.other, iV 0, iV 0, iV 0, iV 0]]) [] := by
 have hw : IntKind.i64.wrap ((p.length : Int) - 1) = (p.length : Int) - 1 := wrap_i64 (by omega) (by omega)
 have s1 := sp_within c.kind 1 7
 rw [h1] at s1
 have s2 := sp_within c.street 0 ((p.length : Int) - 1)
 rw [h2] at s2
 have s3 := sp_within c.other 0 ((p.length : Int) - 1)
 rw [h3] at s3
 refine spec_body Tryz.func132 rfl (fun E hE => ?_); simp only [go_sem, Tryz.ntmps132]
 repeat' (first | (with_reducible (show runOps ..); first | (refine Qr rfl ?_; try intro K' hK; try simp only [go_sem, *])) | (with_reducible (show Hold ..); first | refine Qh rfl ?_ | refine s_draw rfl Tryz.mixed (by kernel_rfl) ?_ | (refine s_cond rfl ⟨_, rfl, fun hb => ?_, fun hb => ?_⟩ <;> (have hc := hb; try simp only [go_sem] at hc)) | refine s_ret rfl ?_) | (with_reducible (show callA ..); first | ((first | refine call_s (s1) ?_ ?_ | refine call_s (s2) ?_ ?_ | refine call_s (s3) ?_ ?_); (focus (simp only [go_sem, *]; done)); simp only [go_sem, *])) | ((with_reducible refine Qb ?_ ?_); focus kernel_rfl) | ((with_reducible refine And.intro ?_ ?_); focus omega) | (refine contA_of hK ?_; clear hK K'; simp only [go_sem, *]) | (simp only [thenA, inBlockA, go_sem, *]))
 all_goals first | contradiction | skip
 refine ⟨[iV 4, .agg [iV c.kind, iV c.street, iV c.other, iV 0, iV 0, iV 0, iV 0]], [], [], ⟨rfl, by simp only [resOne, go_sem], trivial⟩, ?_⟩
 simp only [go_sem, *]
theorem named_ok4 (p : Plan) (c : Change) (hp : p.length ≤ 4294967296) (h1 : betw c.kind 1 7 = true) (h2 : betw c.street 0 ((p.length : Int) - 1) = true) (k4 : (c.kind == 4) = true) (k5 : (c.kind == 5) = false) (k6 : (c.kind == 6) = false) (k7 : (c.kind == 7) = false) (h3 : betw c.other 0 ((p.length : Int) - 1) = true) (h4 : (c.other == c.street) = false) : Spec Tryz.prog 132 [encPlan p, c.enc] [] (.tup [iV 0, .agg [iV c.kind, iV c.street, iV c.other, iV 0, iV 0, iV 0, iV 0]]) [] := by
 have hw : IntKind.i64.wrap ((p.length : Int) - 1) = (p.length : Int) - 1 := wrap_i64 (by omega) (by omega)
 have s1 := sp_within c.kind 1 7
 rw [h1] at s1
 have s2 := sp_within c.street 0 ((p.length : Int) - 1)
 rw [h2] at s2
 have s3 := sp_within c.other 0 ((p.length : Int) - 1)
 rw [h3] at s3
 refine spec_body Tryz.func132 rfl (fun E hE => ?_); simp only [go_sem, Tryz.ntmps132]
 repeat' (first | (with_reducible (show runOps ..); first | (refine Qr rfl ?_; try intro K' hK; try simp only [go_sem, *])) | (with_reducible (show Hold ..); first | refine Qh rfl ?_ | refine s_draw rfl Tryz.mixed (by kernel_rfl) ?_ | (refine s_cond rfl ⟨_, rfl, fun hb => ?_, fun hb => ?_⟩ <;> (have hc := hb; try simp only [go_sem] at hc)) | refine s_ret rfl ?_) | (with_reducible (show callA ..); first | ((first | refine call_s (s1) ?_ ?_ | refine call_s (s2) ?_ ?_ | refine call_s (s3) ?_ ?_); (focus (simp only [go_sem, *]; done)); simp only [go_sem, *])) | ((with_reducible refine Qb ?_ ?_); focus kernel_rfl) | ((with_reducible refine And.intro ?_ ?_); focus omega) | (refine contA_of hK ?_; clear hK K'; simp only [go_sem, *]) | (simp only [thenA, inBlockA, go_sem, *]))
 all_goals first | contradiction | skip
 refine ⟨[iV 0, .agg [iV c.kind, iV c.street, iV c.other, iV 0, iV 0, iV 0, iV 0]], [], [], ⟨rfl, by simp only [resOne, go_sem], trivial⟩, ?_⟩
 simp only [go_sem, *]
theorem named_ok7 (p : Plan) (c : Change) (hp : p.length ≤ 4294967296) (h1 : betw c.kind 1 7 = true) (h2 : betw c.street 0 ((p.length : Int) - 1) = true) (k4 : (c.kind == 4) = false) (k5 : (c.kind == 5) = false) (k6 : (c.kind == 6) = false) (k7 : (c.kind == 7) = true) (h3 : betw c.other 0 ((p.length : Int) - 1) = true) (h4 : (c.other == c.street) = false) : Spec Tryz.prog 132 [encPlan p, c.enc] [] (.tup [iV 0, .agg [iV c.kind, iV c.street, iV c.other, iV c.src.number, iV c.src.letter, iV c.dst.number, iV c.dst.letter]]) [] := by
 have hw : IntKind.i64.wrap ((p.length : Int) - 1) = (p.length : Int) - 1 := wrap_i64 (by omega) (by omega)
 have s1 := sp_within c.kind 1 7
 rw [h1] at s1
 have s2 := sp_within c.street 0 ((p.length : Int) - 1)
 rw [h2] at s2
 have s3 := sp_within c.other 0 ((p.length : Int) - 1)
 rw [h3] at s3
 refine spec_body Tryz.func132 rfl (fun E hE => ?_); simp only [go_sem, Tryz.ntmps132]
 repeat' (first | (with_reducible (show runOps ..); first | (refine Qr rfl ?_; try intro K' hK; try simp only [go_sem, *])) | (with_reducible (show Hold ..); first | refine Qh rfl ?_ | refine s_draw rfl Tryz.mixed (by kernel_rfl) ?_ | (refine s_cond rfl ⟨_, rfl, fun hb => ?_, fun hb => ?_⟩ <;> (have hc := hb; try simp only [go_sem] at hc)) | refine s_ret rfl ?_) | (with_reducible (show callA ..); first | ((first | refine call_s (s1) ?_ ?_ | refine call_s (s2) ?_ ?_ | refine call_s (s3) ?_ ?_); (focus (simp only [go_sem, *]; done)); simp only [go_sem, *])) | ((with_reducible refine Qb ?_ ?_); focus kernel_rfl) | ((with_reducible refine And.intro ?_ ?_); focus omega) | (refine contA_of hK ?_; clear hK K'; simp only [go_sem, *]) | (simp only [thenA, inBlockA, go_sem, *]))
 all_goals first | contradiction | skip
 refine ⟨[iV 0, .agg [iV c.kind, iV c.street, iV c.other, iV c.src.number, iV c.src.letter, iV c.dst.number, iV c.dst.letter]], [], [], ⟨rfl, by simp only [resOne, go_sem], trivial⟩, ?_⟩
 simp only [go_sem, *]
theorem named_ok5 (p : Plan) (c : Change) (hp : p.length ≤ 4294967296) (h1 : betw c.kind 1 7 = true) (h2 : betw c.street 0 ((p.length : Int) - 1) = true) (k4 : (c.kind == 4) = false) (k5 : (c.kind == 5) = true) (k6 : (c.kind == 6) = false) (k7 : (c.kind == 7) = false) : Spec Tryz.prog 132 [encPlan p, c.enc] [] (.tup [iV 0, .agg [iV c.kind, iV c.street, iV 0, iV c.src.number, iV c.src.letter, iV 0, iV 0]]) [] := by
 have hw : IntKind.i64.wrap ((p.length : Int) - 1) = (p.length : Int) - 1 := wrap_i64 (by omega) (by omega)
 have s1 := sp_within c.kind 1 7
 rw [h1] at s1
 have s2 := sp_within c.street 0 ((p.length : Int) - 1)
 rw [h2] at s2
 refine spec_body Tryz.func132 rfl (fun E hE => ?_); simp only [go_sem, Tryz.ntmps132]
 repeat' (first | (with_reducible (show runOps ..); first | (refine Qr rfl ?_; try intro K' hK; try simp only [go_sem, *])) | (with_reducible (show Hold ..); first | refine Qh rfl ?_ | refine s_draw rfl Tryz.mixed (by kernel_rfl) ?_ | (refine s_cond rfl ⟨_, rfl, fun hb => ?_, fun hb => ?_⟩ <;> (have hc := hb; try simp only [go_sem] at hc)) | refine s_ret rfl ?_) | (with_reducible (show callA ..); first | ((first | refine call_s (s1) ?_ ?_ | refine call_s (s2) ?_ ?_); (focus (simp only [go_sem, *]; done)); simp only [go_sem, *])) | ((with_reducible refine Qb ?_ ?_); focus kernel_rfl) | ((with_reducible refine And.intro ?_ ?_); focus omega) | (refine contA_of hK ?_; clear hK K'; simp only [go_sem, *]) | (simp only [thenA, inBlockA, go_sem, *]))
 all_goals first | contradiction | skip
 refine ⟨[iV 0, .agg [iV c.kind, iV c.street, iV 0, iV c.src.number, iV c.src.letter, iV 0, iV 0]], [], [], ⟨rfl, by simp only [resOne, go_sem], trivial⟩, ?_⟩
 simp only [go_sem, *]
theorem named_ok6 (p : Plan) (c : Change) (hp : p.length ≤ 4294967296) (h1 : betw c.kind 1 7 = true) (h2 : betw c.street 0 ((p.length : Int) - 1) = true) (k4 : (c.kind == 4) = false) (k5 : (c.kind == 5) = false) (k6 : (c.kind == 6) = true) (k7 : (c.kind == 7) = false) : Spec Tryz.prog 132 [encPlan p, c.enc] [] (.tup [iV 0, .agg [iV c.kind, iV c.street, iV 0, iV c.src.number, iV c.src.letter, iV 0, iV 0]]) [] := by
 have hw : IntKind.i64.wrap ((p.length : Int) - 1) = (p.length : Int) - 1 := wrap_i64 (by omega) (by omega)
 have s1 := sp_within c.kind 1 7
 rw [h1] at s1
 have s2 := sp_within c.street 0 ((p.length : Int) - 1)
 rw [h2] at s2
 refine spec_body Tryz.func132 rfl (fun E hE => ?_); simp only [go_sem, Tryz.ntmps132]
 repeat' (first | (with_reducible (show runOps ..); first | (refine Qr rfl ?_; try intro K' hK; try simp only [go_sem, *])) | (with_reducible (show Hold ..); first | refine Qh rfl ?_ | refine s_draw rfl Tryz.mixed (by kernel_rfl) ?_ | (refine s_cond rfl ⟨_, rfl, fun hb => ?_, fun hb => ?_⟩ <;> (have hc := hb; try simp only [go_sem] at hc)) | refine s_ret rfl ?_) | (with_reducible (show callA ..); first | ((first | refine call_s (s1) ?_ ?_ | refine call_s (s2) ?_ ?_); (focus (simp only [go_sem, *]; done)); simp only [go_sem, *])) | ((with_reducible refine Qb ?_ ?_); focus kernel_rfl) | ((with_reducible refine And.intro ?_ ?_); focus omega) | (refine contA_of hK ?_; clear hK K'; simp only [go_sem, *]) | (simp only [thenA, inBlockA, go_sem, *]))
 all_goals first | contradiction | skip
 refine ⟨[iV 0, .agg [iV c.kind, iV c.street, iV 0, iV c.src.number, iV c.src.letter, iV 0, iV 0]], [], [], ⟨rfl, by simp only [resOne, go_sem], trivial⟩, ?_⟩
 simp only [go_sem, *]
theorem named_ok (p : Plan) (c : Change) (hp : p.length ≤ 4294967296) (h1 : betw c.kind 1 7 = true) (h2 : betw c.street 0 ((p.length : Int) - 1) = true) (k4 : (c.kind == 4) = false) (k5 : (c.kind == 5) = false) (k6 : (c.kind == 6) = false) (k7 : (c.kind == 7) = false) : Spec Tryz.prog 132 [encPlan p, c.enc] [] (.tup [iV 0, .agg [iV c.kind, iV c.street, iV 0, iV 0, iV 0, iV 0, iV 0]]) [] := by
 have hw : IntKind.i64.wrap ((p.length : Int) - 1) = (p.length : Int) - 1 := wrap_i64 (by omega) (by omega)
 have s1 := sp_within c.kind 1 7
 rw [h1] at s1
 have s2 := sp_within c.street 0 ((p.length : Int) - 1)
 rw [h2] at s2
 refine spec_body Tryz.func132 rfl (fun E hE => ?_); simp only [go_sem, Tryz.ntmps132]
 repeat' (first | (with_reducible (show runOps ..); first | (refine Qr rfl ?_; try intro K' hK; try simp only [go_sem, *])) | (with_reducible (show Hold ..); first | refine Qh rfl ?_ | refine s_draw rfl Tryz.mixed (by kernel_rfl) ?_ | (refine s_cond rfl ⟨_, rfl, fun hb => ?_, fun hb => ?_⟩ <;> (have hc := hb; try simp only [go_sem] at hc)) | refine s_ret rfl ?_) | (with_reducible (show callA ..); first | ((first | refine call_s (s1) ?_ ?_ | refine call_s (s2) ?_ ?_); (focus (simp only [go_sem, *]; done)); simp only [go_sem, *])) | ((with_reducible refine Qb ?_ ?_); focus kernel_rfl) | ((with_reducible refine And.intro ?_ ?_); focus omega) | (refine contA_of hK ?_; clear hK K'; simp only [go_sem, *]) | (simp only [thenA, inBlockA, go_sem, *]))
 all_goals first | contradiction | skip
 refine ⟨[iV 0, .agg [iV c.kind, iV c.street, iV 0, iV 0, iV 0, iV 0, iV 0]], [], [], ⟨rfl, by simp only [resOne, go_sem], trivial⟩, ?_⟩
 simp only [go_sem, *]
def namedErr (p : Plan) (c : Change) : Int :=
 if betw c.kind 1 7 = false then 8
 else if betw c.street 0 (p.length - 1) = false then 3
 else if (c.kind = 4 ∨ c.kind = 7) ∧ betw c.other 0 (p.length - 1) = false then 3
 else if (c.kind = 4 ∨ c.kind = 7) ∧ c.other = c.street then 4 else 0
def namedX (c : Change) : Change := ⟨c.kind, c.street, if c.kind = 4 ∨ c.kind = 7 then c.other else 0, if 5 ≤ c.kind then c.src else zeroPlate, if c.kind = 7 then c.dst else zeroPlate⟩
theorem can_named (p : Plan) (c : Change) : can p c = if namedErr p c = 0 then (if c = namedX c then fitsE p c else 1) else namedErr p c := by
 unfold can namedErr
 by_cases h1 : betw c.kind 1 7 = false
 ·rw [if_pos h1, if_pos h1, if_neg (by decide)]
 rw [if_neg h1, if_neg h1]
 by_cases h2 : betw c.street 0 (p.length - 1) = false
 ·rw [if_pos h2, if_pos h2, if_neg (by decide)]
 rw [if_neg h2, if_neg h2]
 by_cases h3 : (c.kind = 4 ∨ c.kind = 7) ∧ betw c.other 0 (p.length - 1) = false
 ·rw [if_pos h3, if_pos h3, if_neg (by decide)]
 rw [if_neg h3, if_neg h3]
 by_cases h4 : (c.kind = 4 ∨ c.kind = 7) ∧ c.other = c.street
 ·rw [if_pos h4, if_pos h4, if_neg (by decide)]
 rw [if_neg h4, if_neg h4, if_pos rfl]
 by_cases h5 : (¬ (c.kind = 4 ∨ c.kind = 7) ∧ c.other ≠ 0) ∨ (¬ 5 ≤ c.kind ∧ c.src ≠ zeroPlate) ∨ (¬ c.kind = 7 ∧ c.dst ≠ zeroPlate)
 ·rw [if_pos h5, if_neg]
  intro e
  rw [Change.eq_iff] at e
  obtain ⟨_, _, e1, e2, e3⟩ := e
  simp only [namedX] at e1 e2 e3
  rcases h5 with ⟨a, b⟩ | ⟨a, b⟩ | ⟨a, b⟩
  ·rw [if_neg a] at e1; exact b e1
  ·rw [if_neg a] at e2; exact b e2
  ·rw [if_neg a] at e3; exact b e3
 ·rw [if_neg h5, if_pos]
  rw [Change.eq_iff]
  refine ⟨rfl, rfl, ?_, ?_, ?_⟩
  ·simp only [namedX]
   split
   ·rfl
   ·rename_i a; exact Classical.byContradiction fun b => h5 (.inl ⟨a, b⟩)
  ·simp only [namedX]
   split
   ·rfl
   ·rename_i a; exact Classical.byContradiction fun b => h5 (.inr (.inl ⟨a, b⟩))
  ·simp only [namedX]
   split
   ·rfl
   ·rename_i a; exact Classical.byContradiction fun b => h5 (.inr (.inr ⟨a, b⟩))
theorem sp_named (p : Plan) (c : Change) (hp : p.length ≤ 4294967296) : ∃ x : Change, (namedErr p c = 0 → x = namedX c) ∧ Spec Tryz.prog 132 [encPlan p, c.enc] [] (.tup [iV (namedErr p c), x.enc]) [] := by
 have bt : ∀ {b : Bool}, ¬ b = false → b = true := fun h => by simpa using h
 have nk : ∀ n : Int, ¬ c.kind = n → (c.kind == n) = false := fun n h => by rw [beq_eq_false_iff_ne]; exact h
 have yk : ∀ n : Int, c.kind = n → (c.kind == n) = true := fun n h => by rw [beq_iff_eq]; exact h
 by_cases h1 : betw c.kind 1 7 = false
 ·have e : namedErr p c = 8 := by unfold namedErr; rw [if_pos h1]
  rw [e]
  exact ⟨⟨c.kind, c.street, 0, zeroPlate, zeroPlate⟩, fun h => by omega, named_kind p c hp h1⟩
 by_cases h2 : betw c.street 0 (p.length - 1) = false
 ·have e : namedErr p c = 3 := by unfold namedErr; rw [if_neg h1, if_pos h2]
  rw [e]
  exact ⟨⟨c.kind, c.street, 0, zeroPlate, zeroPlate⟩, fun h => by omega, named_street p c hp (bt h1) h2⟩
 have b1 := bt h1
 have b2 := bt h2
 by_cases k47 : c.kind = 4 ∨ c.kind = 7
 ·by_cases h3 : betw c.other 0 (p.length - 1) = false
  ·have e : namedErr p c = 3 := by unfold namedErr; rw [if_neg h1, if_neg h2, if_pos ⟨k47, h3⟩]
   rw [e]
   refine ⟨⟨c.kind, c.street, c.other, zeroPlate, zeroPlate⟩, fun h => by omega, ?_⟩
   rcases k47 with k | k
   ·exact named_out4 p c hp b1 b2 (yk 4 k) (nk 5 (by omega)) (nk 6 (by omega)) (nk 7 (by omega)) h3
   ·exact named_out7 p c hp b1 b2 (nk 4 (by omega)) (nk 5 (by omega)) (nk 6 (by omega)) (yk 7 k) h3
  ·have b3 := bt h3
   by_cases h4 : c.other = c.street
   ·have e : namedErr p c = 4 := by unfold namedErr; rw [if_neg h1, if_neg h2, if_neg (fun h => h3 h.2), if_pos ⟨k47, h4⟩]
    have s4 : (c.other == c.street) = true := by rw [beq_iff_eq]; exact h4
    rw [e]
    refine ⟨⟨c.kind, c.street, c.other, zeroPlate, zeroPlate⟩, fun h => by omega, ?_⟩
    rcases k47 with k | k
    ·exact named_same4 p c hp b1 b2 (yk 4 k) (nk 5 (by omega)) (nk 6 (by omega)) (nk 7 (by omega)) b3 s4
    ·exact named_same7 p c hp b1 b2 (nk 4 (by omega)) (nk 5 (by omega)) (nk 6 (by omega)) (yk 7 k) b3 s4
   ·have e : namedErr p c = 0 := by unfold namedErr; rw [if_neg h1, if_neg h2, if_neg (fun h => h3 h.2), if_neg (fun h => h4 h.2)]
    have s4 : (c.other == c.street) = false := by rw [beq_eq_false_iff_ne]; exact h4
    rw [e]
    rcases k47 with k | k
    ·refine ⟨⟨c.kind, c.street, c.other, zeroPlate, zeroPlate⟩, fun _ => ?_, named_ok4 p c hp b1 b2 (yk 4 k) (nk 5 (by omega)) (nk 6 (by omega)) (nk 7 (by omega)) b3 s4⟩
     unfold namedX; simp [k]
    ·refine ⟨⟨c.kind, c.street, c.other, c.src, c.dst⟩, fun _ => ?_, named_ok7 p c hp b1 b2 (nk 4 (by omega)) (nk 5 (by omega)) (nk 6 (by omega)) (yk 7 k) b3 s4⟩
     unfold namedX; simp [k]
 ·have e : namedErr p c = 0 := by unfold namedErr; rw [if_neg h1, if_neg h2, if_neg (fun h => k47 h.1), if_neg (fun h => k47 h.1)]
  rw [e]
  by_cases k5 : c.kind = 5
  ·refine ⟨⟨c.kind, c.street, 0, c.src, zeroPlate⟩, fun _ => ?_, named_ok5 p c hp b1 b2 (nk 4 (by omega)) (yk 5 k5) (nk 6 (by omega)) (nk 7 (by omega))⟩
   unfold namedX; simp [k5]
  ·by_cases k6 : c.kind = 6
   ·refine ⟨⟨c.kind, c.street, 0, c.src, zeroPlate⟩, fun _ => ?_, named_ok6 p c hp b1 b2 (nk 4 (by omega)) (nk 5 k5) (yk 6 k6) (nk 7 (by omega))⟩
    unfold namedX; simp [k6]
   ·have hk := betw_iff.1 b1
    refine ⟨⟨c.kind, c.street, 0, zeroPlate, zeroPlate⟩, fun _ => ?_, named_ok p c hp b1 b2 (nk 4 (by omega)) (nk 5 k5) (nk 6 k6) (nk 7 (by omega))⟩
    unfold namedX
    rw [if_neg k47, if_neg (by omega), if_neg (by omega)]
end Go.Abs

namespace Go.Abs
open Go Go.Proofs
set_option maxRecDepth 10000
set_option maxHeartbeats 4000000
theorem idxP_neg (l : List Plate) (x : Plate) : idxP l x < 0 ↔ x ∉ l := by
 unfold idxP
 split
 ·rename_i h; simp [h]
 ·rename_i h; simp [h]
theorem idx_yes {l : List Plate} {x : Plate} (h : x ∈ l) : ¬ idxP l x < 0 := fun e => (idxP_neg l x).1 e h
theorem idx_no {l : List Plate} {x : Plate} (h : x ∉ l) : idxP l x < 0 := (idxP_neg l x).2 h
theorem fits_k4 (p : Plan) (c : Change) (v : Valid p) (hs : 0 ≤ c.street ∧ c.street < p.length) (ho : 0 ≤ c.other ∧ c.other < p.length) (k : c.kind = 4) (R : Int) (hR : fitsE p c = R) : Spec Tryz.prog 133 [encPlan p, c.enc] [] (iV R) [] := by
 have hl := (v.row c.street).len
 have hol := (v.row c.other).len
 have hob := base_le (v.row c.other)
 have hok := (v.row c.street).ok
 have sb := sp_base (rowAt p c.other) (by omega) (v.row c.other).ok
 have hs' : c.street.toNat < p.length := by omega
 have ho' : c.other.toNat < p.length := by omega
 obtain ⟨hs0, hs1⟩ := hs
 obtain ⟨ho0, ho1⟩ := ho
 have hw : IntKind.i64.wrap (((rowAt p c.street).length : Int) + ((rowAt p c.other).length : Int)) = ((rowAt p c.street).length : Int) + ((rowAt p c.other).length : Int) := wrap_i64 (by omega) (by omega)
 rw [fitsE_join k] at hR
 have k' : (c.kind == 4) = true := by rw [beq_iff_eq]; exact k
 clear k
 by_cases q : 8 < (rowAt p c.street).length + (rowAt p c.other).length
 ·rw [if_pos q] at hR
  have q' : ((rowAt p c.street).length : Int) + ((rowAt p c.other).length : Int) > 8 := by omega
  subst hR
  clear hob hok
  refine spec_body Tryz.func133 rfl (fun E hE => ?_); simp only [go_sem, Tryz.ntmps133]
  repeat' (first | (with_reducible (show runOps ..); first | (refine Qr rfl ?_; try intro K' hK; try simp only [go_sem, *]) | (refine Qi rfl rfl rfl rfl (fun hb K' hK => ?_) (fun hb => ?_) <;> (have hc := hb; try simp only [go_sem] at hc; simp only [go_sem, *]))) | (with_reducible (show Hold ..); first | refine Qh rfl ?_ | refine s_draw rfl Tryz.mixed (by kernel_rfl) ?_ | (refine s_cond rfl ⟨_, rfl, fun hb => ?_, fun hb => ?_⟩ <;> (have hc := hb; try simp only [go_sem] at hc)) | refine s_ret rfl ?_) | ((with_reducible refine Qb ?_ ?_); focus kernel_rfl) | ((with_reducible refine And.intro ?_ ?_); focus omega) | (refine contA_of hK ?_; clear hK K'; simp only [go_sem, *]) | (simp only [thenA, inBlockA, go_sem, *]))
  all_goals first | contradiction | omega | skip
  (refine ⟨[_], [], [], ⟨rfl, trivial⟩, ?_⟩; simp only [go_sem, *])
 ·rw [if_neg q] at hR
  have q' : ¬ ((rowAt p c.street).length : Int) + ((rowAt p c.other).length : Int) > 8 := by omega
  have hR0 : (if ((rowAt p c.street).drop 0).any (fun x => decide (40 < x.number + base (rowAt p c.other))) = true then (1 : Int) else 0) = R := hR
  clear hR q
  generalize base (rowAt p c.other) = bb at *
  refine spec_body Tryz.func133 rfl (fun E hE => ?_); simp only [go_sem, Tryz.ntmps133]
  repeat' (first | (with_reducible (show runOps ..); first | (refine Qr rfl ?_; try intro K' hK; try simp only [go_sem, *]) | (refine Qi rfl rfl rfl rfl (fun hb K' hK => ?_) (fun hb => ?_) <;> (have hc := hb; try simp only [go_sem] at hc; simp only [go_sem, *]))) | (with_reducible (show Hold ..); first | refine Qh rfl ?_ | refine s_draw rfl Tryz.mixed (by kernel_rfl) ?_ | (refine s_cond rfl ⟨_, rfl, fun hb => ?_, fun hb => ?_⟩ <;> (have hc := hb; try simp only [go_sem] at hc)) | refine s_ret rfl ?_) | ((with_reducible refine Qb ?_ ?_); focus kernel_rfl) | ((with_reducible refine And.intro ?_ ?_); focus omega) | (refine contA_of hK ?_; clear hK K'; simp only [go_sem, *]) | (simp only [thenA, inBlockA, go_sem, *]))
  all_goals first | contradiction | omega | skip
  generalize hll : rowAt p c.street = l at *
  refine s_loop rfl (fun zn zN zenv zAs => ∃ (i : Nat), zn = (l.length) - i ∧ i ≤ (l.length) ∧ ((if (l.drop i).any (fun x => decide (40 < x.number + bb)) = true then (1 : Int) else 0) = R) ∧ zN = 97 ∧ zenv = [(7, iV i), (6, encStreet (rowAt p c.other)), (5, encStreet l)] ∧ zAs = []) (l.length) ⟨[], [], _, _, _, (by (simp only [Weak, go_sem, List.map_append, List.map_set, *] <;> (try simp (disch := omega) only [wrap_succ]) <;> (try simp) <;> (try omega))), 0, (by simp), (by simp), (by exact hR0), rfl, rfl, rfl⟩ ?_; rintro _ _ _ _ ⟨i, rfl, hi, hP, rfl, rfl, rfl⟩
  clear hR0
  by_cases hi2 : i < l.length
  ·have hx := (ok_iff _).1 (hok _ (getD_mem hi2))
   rw [drop_cons hi2, List.any_cons] at hP
   have hwx : IntKind.i64.wrap ((l.getD i default).number + bb) = (l.getD i default).number + bb := wrap_i64 (by omega) (by omega)
   by_cases r : 40 < (l.getD i default).number + bb
   ·have e : decide (40 < (l.getD i default).number + bb) = true := by simpa using r
    rw [e, Bool.true_or, if_pos rfl] at hP
    have r' : (l.getD i default).number + bb > 40 := r
    clear e r
    subst hP
    repeat' (first | (with_reducible (show runOps ..); first | (refine Qr rfl ?_; try intro K' hK; try simp only [go_sem, *]) | (refine Qi rfl rfl rfl rfl (fun hb K' hK => ?_) (fun hb => ?_) <;> (have hc := hb; try simp only [go_sem] at hc; simp only [go_sem, *]))) | (with_reducible (show Hold ..); first | refine Qh rfl ?_ | refine s_draw rfl Tryz.mixed (by kernel_rfl) ?_ | (refine s_cond rfl ⟨_, rfl, fun hb => ?_, fun hb => ?_⟩ <;> (have hc := hb; try simp only [go_sem] at hc)) | refine s_ret rfl ?_) | (with_reducible (show callA ..); first | (refine call_s (sb) ?_ ?_; (focus (simp only [go_sem, *]; done)); simp only [go_sem, *])) | ((with_reducible refine Qb ?_ ?_); focus kernel_rfl) | ((with_reducible refine And.intro ?_ ?_); focus omega) | (refine contA_of hK ?_; clear hK K'; simp only [go_sem, *]) | (simp only [thenA, inBlockA, go_sem, *]))
    all_goals first | contradiction | omega | skip
    (refine ⟨[_], [], [], ⟨rfl, trivial⟩, ?_⟩; simp only [go_sem, *])
   ·have e : decide (40 < (l.getD i default).number + bb) = false := by simpa using r
    rw [e, Bool.false_or] at hP
    have r' : ¬ (l.getD i default).number + bb > 40 := r
    clear e r
    repeat' (first | (with_reducible (show runOps ..); first | (refine Qr rfl ?_; try intro K' hK; try simp only [go_sem, *]) | (refine Qi rfl rfl rfl rfl (fun hb K' hK => ?_) (fun hb => ?_) <;> (have hc := hb; try simp only [go_sem] at hc; simp only [go_sem, *]))) | (with_reducible (show Hold ..); first | refine Qh rfl ?_ | refine s_draw rfl Tryz.mixed (by kernel_rfl) ?_ | (refine s_cond rfl ⟨_, rfl, fun hb => ?_, fun hb => ?_⟩ <;> (have hc := hb; try simp only [go_sem] at hc)) | refine s_ret rfl ?_) | (with_reducible (show callA ..); first | (refine call_s (sb) ?_ ?_; (focus (simp only [go_sem, *]; done)); simp only [go_sem, *])) | ((with_reducible refine Qb ?_ ?_); focus kernel_rfl) | ((with_reducible refine And.intro ?_ ?_); focus omega) | (refine contA_of hK ?_; clear hK K'; simp only [go_sem, *]) | (simp only [thenA, inBlockA, go_sem, *]))
    all_goals first | contradiction | omega | skip
    refine ⟨_, (by omega), [], [], _, _, _, (by (simp only [Weak, go_sem, List.map_append, List.map_set, *] <;> (try simp (disch := omega) only [wrap_succ]) <;> (try simp) <;> (try omega))), i + 1, rfl, (by omega), (by exact hP), rfl, rfl, rfl⟩
  ·rw [drop_end (by omega), List.any_nil, if_neg (by decide)] at hP
   subst hP
   repeat' (first | (with_reducible (show runOps ..); first | (refine Qr rfl ?_; try intro K' hK; try simp only [go_sem, *]) | (refine Qi rfl rfl rfl rfl (fun hb K' hK => ?_) (fun hb => ?_) <;> (have hc := hb; try simp only [go_sem] at hc; simp only [go_sem, *]))) | (with_reducible (show Hold ..); first | refine Qh rfl ?_ | refine s_draw rfl Tryz.mixed (by kernel_rfl) ?_ | (refine s_cond rfl ⟨_, rfl, fun hb => ?_, fun hb => ?_⟩ <;> (have hc := hb; try simp only [go_sem] at hc)) | refine s_ret rfl ?_) | ((with_reducible refine Qb ?_ ?_); focus kernel_rfl) | ((with_reducible refine And.intro ?_ ?_); focus omega) | (refine contA_of hK ?_; clear hK K'; simp only [go_sem, *]) | (simp only [thenA, inBlockA, go_sem, *]))
   (refine ⟨[_], [], [], ⟨rfl, trivial⟩, ?_⟩; simp only [go_sem, *])
theorem fits_k5 (p : Plan) (c : Change) (v : Valid p) (hs : 0 ≤ c.street ∧ c.street < p.length) (k : c.kind = 5) (R : Int) (hR : fitsE p c = R) : Spec Tryz.prog 133 [encPlan p, c.enc] [] (iV R) [] := by
 have hl := (v.row c.street).len
 have hs' : c.street.toNat < p.length := by omega
 obtain ⟨hs0, hs1⟩ := hs
 rw [fitsE_divide k] at hR
 have k' : (c.kind == 5) = true := by rw [beq_iff_eq]; exact k
 have k4 : (c.kind == 4) = false := by rw [beq_eq_false_iff_ne]; omega
 clear k
 have s1 := sp_index (rowAt p c.street) c.src (by omega)
 have s2 := sp_letter (rowAt p c.street) c.src.number (by omega)
 by_cases q : c.src ∈ rowAt p c.street
 ·rw [if_neg (by simpa using q)] at hR
  have q' := idx_yes q
  clear q
  generalize idxP (rowAt p c.street) c.src = ix at *
  generalize letter (rowAt p c.street) c.src.number = lt at *
  by_cases r : (rowAt p c.street).length = 8
  ·rw [if_pos (.inl r)] at hR
   have r' : (((rowAt p c.street).length : Int) == 8) = true := by rw [beq_iff_eq]; omega
   clear r
   subst hR
   refine spec_body Tryz.func133 rfl (fun E hE => ?_); simp only [go_sem, Tryz.ntmps133]
   repeat' (first | (with_reducible (show runOps ..); first | (refine Qr rfl ?_; try intro K' hK; try simp only [go_sem, *]) | (refine Qi rfl rfl rfl rfl (fun hb K' hK => ?_) (fun hb => ?_) <;> (have hc := hb; try simp only [go_sem] at hc; simp only [go_sem, *]))) | (with_reducible (show Hold ..); first | refine Qh rfl ?_ | refine s_draw rfl Tryz.mixed (by kernel_rfl) ?_ | (refine s_cond rfl ⟨_, rfl, fun hb => ?_, fun hb => ?_⟩ <;> (have hc := hb; try simp only [go_sem] at hc)) | refine s_ret rfl ?_) | (with_reducible (show callA ..); first | ((first | refine call_s (s1) ?_ ?_ | refine call_s (s2) ?_ ?_); (focus (simp only [go_sem, *]; done)); simp only [go_sem, *])) | ((with_reducible refine Qb ?_ ?_); focus kernel_rfl) | ((with_reducible refine And.intro ?_ ?_); focus omega) | (refine contA_of hK ?_; clear hK K'; simp only [go_sem, *]) | (simp only [thenA, inBlockA, go_sem, *]))
   all_goals first | contradiction | omega | skip
   (refine ⟨[_], [], [], ⟨rfl, trivial⟩, ?_⟩; simp only [go_sem, *])
  ·have r' : (((rowAt p c.street).length : Int) == 8) = false := by rw [beq_eq_false_iff_ne]; omega
   by_cases t : lt = 0
   ·rw [if_pos (.inr t)] at hR
    clear r
    subst t
    subst hR
    refine spec_body Tryz.func133 rfl (fun E hE => ?_); simp only [go_sem, Tryz.ntmps133]
    repeat' (first | (with_reducible (show runOps ..); first | (refine Qr rfl ?_; try intro K' hK; try simp only [go_sem, *]) | (refine Qi rfl rfl rfl rfl (fun hb K' hK => ?_) (fun hb => ?_) <;> (have hc := hb; try simp only [go_sem] at hc; simp only [go_sem, *]))) | (with_reducible (show Hold ..); first | refine Qh rfl ?_ | refine s_draw rfl Tryz.mixed (by kernel_rfl) ?_ | (refine s_cond rfl ⟨_, rfl, fun hb => ?_, fun hb => ?_⟩ <;> (have hc := hb; try simp only [go_sem] at hc)) | refine s_ret rfl ?_) | (with_reducible (show callA ..); first | ((first | refine call_s (s1) ?_ ?_ | refine call_s (s2) ?_ ?_); (focus (simp only [go_sem, *]; done)); simp only [go_sem, *])) | ((with_reducible refine Qb ?_ ?_); focus kernel_rfl) | ((with_reducible refine And.intro ?_ ?_); focus omega) | (refine contA_of hK ?_; clear hK K'; simp only [go_sem, *]) | (simp only [thenA, inBlockA, go_sem, *]))
    all_goals first | contradiction | omega | skip
    (refine ⟨[_], [], [], ⟨rfl, trivial⟩, ?_⟩; simp only [go_sem, *])
   ·rw [if_neg (by rintro (h | h); exact r h; exact t h)] at hR
    have t' : (lt == 0) = false := by rw [beq_eq_false_iff_ne]; exact t
    clear r t
    subst hR
    refine spec_body Tryz.func133 rfl (fun E hE => ?_); simp only [go_sem, Tryz.ntmps133]
    repeat' (first | (with_reducible (show runOps ..); first | (refine Qr rfl ?_; try intro K' hK; try simp only [go_sem, *]) | (refine Qi rfl rfl rfl rfl (fun hb K' hK => ?_) (fun hb => ?_) <;> (have hc := hb; try simp only [go_sem] at hc; simp only [go_sem, *]))) | (with_reducible (show Hold ..); first | refine Qh rfl ?_ | refine s_draw rfl Tryz.mixed (by kernel_rfl) ?_ | (refine s_cond rfl ⟨_, rfl, fun hb => ?_, fun hb => ?_⟩ <;> (have hc := hb; try simp only [go_sem] at hc)) | refine s_ret rfl ?_) | (with_reducible (show callA ..); first | ((first | refine call_s (s1) ?_ ?_ | refine call_s (s2) ?_ ?_); (focus (simp only [go_sem, *]; done)); simp only [go_sem, *])) | ((with_reducible refine Qb ?_ ?_); focus kernel_rfl) | ((with_reducible refine And.intro ?_ ?_); focus omega) | (refine contA_of hK ?_; clear hK K'; simp only [go_sem, *]) | (simp only [thenA, inBlockA, go_sem, *]))
    all_goals first | contradiction | omega | skip
    (refine ⟨[_], [], [], ⟨rfl, trivial⟩, ?_⟩; simp only [go_sem, *])
 ·rw [if_pos q] at hR
  have q' := idx_no q
  clear q
  generalize idxP (rowAt p c.street) c.src = ix at *
  subst hR
  refine spec_body Tryz.func133 rfl (fun E hE => ?_); simp only [go_sem, Tryz.ntmps133]
  repeat' (first | (with_reducible (show runOps ..); first | (refine Qr rfl ?_; try intro K' hK; try simp only [go_sem, *]) | (refine Qi rfl rfl rfl rfl (fun hb K' hK => ?_) (fun hb => ?_) <;> (have hc := hb; try simp only [go_sem] at hc; simp only [go_sem, *]))) | (with_reducible (show Hold ..); first | refine Qh rfl ?_ | refine s_draw rfl Tryz.mixed (by kernel_rfl) ?_ | (refine s_cond rfl ⟨_, rfl, fun hb => ?_, fun hb => ?_⟩ <;> (have hc := hb; try simp only [go_sem] at hc)) | refine s_ret rfl ?_) | (with_reducible (show callA ..); first | (refine call_s (s1) ?_ ?_; (focus (simp only [go_sem, *]; done)); simp only [go_sem, *])) | ((with_reducible refine Qb ?_ ?_); focus kernel_rfl) | ((with_reducible refine And.intro ?_ ?_); focus omega) | (refine contA_of hK ?_; clear hK K'; simp only [go_sem, *]) | (simp only [thenA, inBlockA, go_sem, *]))
  all_goals first | contradiction | omega | skip
  (refine ⟨[_], [], [], ⟨rfl, trivial⟩, ?_⟩; simp only [go_sem, *])
theorem fits_k6 (p : Plan) (c : Change) (v : Valid p) (hs : 0 ≤ c.street ∧ c.street < p.length) (k : c.kind = 6) (R : Int) (hR : fitsE p c = R) : Spec Tryz.prog 133 [encPlan p, c.enc] [] (iV R) [] := by
 have hl := (v.row c.street).len
 have hs' : c.street.toNat < p.length := by omega
 obtain ⟨hs0, hs1⟩ := hs
 rw [fitsE_fell k] at hR
 have k' : (c.kind == 6) = true := by rw [beq_iff_eq]; exact k
 have k4 : (c.kind == 4) = false := by rw [beq_eq_false_iff_ne]; omega
 have k5 : (c.kind == 5) = false := by rw [beq_eq_false_iff_ne]; omega
 clear k
 have s1 := sp_index (rowAt p c.street) c.src (by omega)
 by_cases q : c.src ∈ rowAt p c.street
 ·rw [if_neg (by simpa using q)] at hR
  have q' := idx_yes q
  clear q
  generalize idxP (rowAt p c.street) c.src = ix at *
  subst hR
  refine spec_body Tryz.func133 rfl (fun E hE => ?_); simp only [go_sem, Tryz.ntmps133]
  repeat' (first | (with_reducible (show runOps ..); first | (refine Qr rfl ?_; try intro K' hK; try simp only [go_sem, *]) | (refine Qi rfl rfl rfl rfl (fun hb K' hK => ?_) (fun hb => ?_) <;> (have hc := hb; try simp only [go_sem] at hc; simp only [go_sem, *]))) | (with_reducible (show Hold ..); first | refine Qh rfl ?_ | refine s_draw rfl Tryz.mixed (by kernel_rfl) ?_ | (refine s_cond rfl ⟨_, rfl, fun hb => ?_, fun hb => ?_⟩ <;> (have hc := hb; try simp only [go_sem] at hc)) | refine s_ret rfl ?_) | (with_reducible (show callA ..); first | (refine call_s (s1) ?_ ?_; (focus (simp only [go_sem, *]; done)); simp only [go_sem, *])) | ((with_reducible refine Qb ?_ ?_); focus kernel_rfl) | ((with_reducible refine And.intro ?_ ?_); focus omega) | (refine contA_of hK ?_; clear hK K'; simp only [go_sem, *]) | (simp only [thenA, inBlockA, go_sem, *]))
  all_goals first | contradiction | omega | skip
  (refine ⟨[_], [], [], ⟨rfl, trivial⟩, ?_⟩; simp only [go_sem, *])
 ·rw [if_pos q] at hR
  have q' := idx_no q
  clear q
  generalize idxP (rowAt p c.street) c.src = ix at *
  subst hR
  refine spec_body Tryz.func133 rfl (fun E hE => ?_); simp only [go_sem, Tryz.ntmps133]
  repeat' (first | (with_reducible (show runOps ..); first | (refine Qr rfl ?_; try intro K' hK; try simp only [go_sem, *]) | (refine Qi rfl rfl rfl rfl (fun hb K' hK => ?_) (fun hb => ?_) <;> (have hc := hb; try simp only [go_sem] at hc; simp only [go_sem, *]))) | (with_reducible (show Hold ..); first | refine Qh rfl ?_ | refine s_draw rfl Tryz.mixed (by kernel_rfl) ?_ | (refine s_cond rfl ⟨_, rfl, fun hb => ?_, fun hb => ?_⟩ <;> (have hc := hb; try simp only [go_sem] at hc)) | refine s_ret rfl ?_) | (with_reducible (show callA ..); first | (refine call_s (s1) ?_ ?_; (focus (simp only [go_sem, *]; done)); simp only [go_sem, *])) | ((with_reducible refine Qb ?_ ?_); focus kernel_rfl) | ((with_reducible refine And.intro ?_ ?_); focus omega) | (refine contA_of hK ?_; clear hK K'; simp only [go_sem, *]) | (simp only [thenA, inBlockA, go_sem, *]))
  all_goals first | contradiction | omega | skip
  (refine ⟨[_], [], [], ⟨rfl, trivial⟩, ?_⟩; simp only [go_sem, *])
theorem fits_k7 (p : Plan) (c : Change) (v : Valid p) (hs : 0 ≤ c.street ∧ c.street < p.length) (ho : 0 ≤ c.other ∧ c.other < p.length) (k : c.kind = 7) (R : Int) (hR : fitsE p c = R) : Spec Tryz.prog 133 [encPlan p, c.enc] [] (iV R) [] := by
 have hl := (v.row c.street).len
 have hs' : c.street.toNat < p.length := by omega
 have ho' : c.other.toNat < p.length := by omega
 obtain ⟨hs0, hs1⟩ := hs
 obtain ⟨ho0, ho1⟩ := ho
 rw [fitsE_court k] at hR
 have k' : (c.kind == 7) = true := by rw [beq_iff_eq]; exact k
 have k4 : (c.kind == 4) = false := by rw [beq_eq_false_iff_ne]; omega
 have k5 : (c.kind == 5) = false := by rw [beq_eq_false_iff_ne]; omega
 have k6 : (c.kind == 6) = false := by rw [beq_eq_false_iff_ne]; omega
 clear k
 have s1 := sp_index (rowAt p c.street) c.src (by omega)
 have s2 := sp_index (rowAt p c.street) c.dst (by omega)
 have s3 := sp_Before c.dst c.src
 by_cases q : c.src ∈ rowAt p c.street
 ·have q' := idx_yes q
  by_cases r : c.dst ∈ rowAt p c.street
  ·have r' := idx_yes r
   rw [if_neg (by rintro (h | h); exact h q; exact h r)] at hR
   clear q r
   generalize idxP (rowAt p c.street) c.src = ix at *
   generalize idxP (rowAt p c.street) c.dst = iy at *
   by_cases t : c.dst.lt c.src = true
   ·rw [if_pos t] at hR
    rw [t] at s3
    clear t
    subst hR
    refine spec_body Tryz.func133 rfl (fun E hE => ?_); simp only [go_sem, Tryz.ntmps133]
    repeat' (first | (with_reducible (show runOps ..); first | (refine Qr rfl ?_; try intro K' hK; try simp only [go_sem, *]) | (refine Qi rfl rfl rfl rfl (fun hb K' hK => ?_) (fun hb => ?_) <;> (have hc := hb; try simp only [go_sem] at hc; simp only [go_sem, *]))) | (with_reducible (show Hold ..); first | refine Qh rfl ?_ | refine s_draw rfl Tryz.mixed (by kernel_rfl) ?_ | (refine s_cond rfl ⟨_, rfl, fun hb => ?_, fun hb => ?_⟩ <;> (have hc := hb; try simp only [go_sem] at hc)) | refine s_ret rfl ?_) | (with_reducible (show callA ..); first | ((first | refine call_s (s1) ?_ ?_ | refine call_s (s2) ?_ ?_ | refine call_s (s3) ?_ ?_); (focus (simp only [go_sem, *]; done)); simp only [go_sem, *])) | ((with_reducible refine Qb ?_ ?_); focus kernel_rfl) | ((with_reducible refine And.intro ?_ ?_); focus omega) | (refine contA_of hK ?_; clear hK K'; simp only [go_sem, *]) | (simp only [thenA, inBlockA, go_sem, *]))
    all_goals first | contradiction | omega | skip
    (refine ⟨[_], [], [], ⟨rfl, trivial⟩, ?_⟩; simp only [go_sem, *])
   ·rw [if_neg t] at hR
    rw [Bool.not_eq_true] at t
    rw [t] at s3
    clear t
    by_cases u : 0 < (rowAt p c.other).length
    ·rw [if_pos u] at hR
     subst hR
     refine spec_body Tryz.func133 rfl (fun E hE => ?_); simp only [go_sem, Tryz.ntmps133]
     repeat' (first | (with_reducible (show runOps ..); first | (refine Qr rfl ?_; try intro K' hK; try simp only [go_sem, *]) | (refine Qi rfl rfl rfl rfl (fun hb K' hK => ?_) (fun hb => ?_) <;> (have hc := hb; try simp only [go_sem] at hc; simp only [go_sem, *]))) | (with_reducible (show Hold ..); first | refine Qh rfl ?_ | refine s_draw rfl Tryz.mixed (by kernel_rfl) ?_ | (refine s_cond rfl ⟨_, rfl, fun hb => ?_, fun hb => ?_⟩ <;> (have hc := hb; try simp only [go_sem] at hc)) | refine s_ret rfl ?_) | (with_reducible (show callA ..); first | ((first | refine call_s (s1) ?_ ?_ | refine call_s (s2) ?_ ?_ | refine call_s (s3) ?_ ?_); (focus (simp only [go_sem, *]; done)); simp only [go_sem, *])) | ((with_reducible refine Qb ?_ ?_); focus kernel_rfl) | ((with_reducible refine And.intro ?_ ?_); focus omega) | (refine contA_of hK ?_; clear hK K'; simp only [go_sem, *]) | (simp only [thenA, inBlockA, go_sem, *]))
     all_goals first | contradiction | omega | skip
     (refine ⟨[_], [], [], ⟨rfl, trivial⟩, ?_⟩; simp only [go_sem, *])
    ·rw [if_neg u] at hR
     subst hR
     refine spec_body Tryz.func133 rfl (fun E hE => ?_); simp only [go_sem, Tryz.ntmps133]
     repeat' (first | (with_reducible (show runOps ..); first | (refine Qr rfl ?_; try intro K' hK; try simp only [go_sem, *]) | (refine Qi rfl rfl rfl rfl (fun hb K' hK => ?_) (fun hb => ?_) <;> (have hc := hb; try simp only [go_sem] at hc; simp only [go_sem, *]))) | (with_reducible (show Hold ..); first | refine Qh rfl ?_ | refine s_draw rfl Tryz.mixed (by kernel_rfl) ?_ | (refine s_cond rfl ⟨_, rfl, fun hb => ?_, fun hb => ?_⟩ <;> (have hc := hb; try simp only [go_sem] at hc)) | refine s_ret rfl ?_) | (with_reducible (show callA ..); first | ((first | refine call_s (s1) ?_ ?_ | refine call_s (s2) ?_ ?_ | refine call_s (s3) ?_ ?_); (focus (simp only [go_sem, *]; done)); simp only [go_sem, *])) | ((with_reducible refine Qb ?_ ?_); focus kernel_rfl) | ((with_reducible refine And.intro ?_ ?_); focus omega) | (refine contA_of hK ?_; clear hK K'; simp only [go_sem, *]) | (simp only [thenA, inBlockA, go_sem, *]))
     all_goals first | contradiction | omega | skip
     (refine ⟨[_], [], [], ⟨rfl, trivial⟩, ?_⟩; simp only [go_sem, *])
  ·have r' := idx_no r
   rw [if_pos (.inr r)] at hR
   clear q r
   generalize idxP (rowAt p c.street) c.src = ix at *
   generalize idxP (rowAt p c.street) c.dst = iy at *
   subst hR
   refine spec_body Tryz.func133 rfl (fun E hE => ?_); simp only [go_sem, Tryz.ntmps133]
   repeat' (first | (with_reducible (show runOps ..); first | (refine Qr rfl ?_; try intro K' hK; try simp only [go_sem, *]) | (refine Qi rfl rfl rfl rfl (fun hb K' hK => ?_) (fun hb => ?_) <;> (have hc := hb; try simp only [go_sem] at hc; simp only [go_sem, *]))) | (with_reducible (show Hold ..); first | refine Qh rfl ?_ | refine s_draw rfl Tryz.mixed (by kernel_rfl) ?_ | (refine s_cond rfl ⟨_, rfl, fun hb => ?_, fun hb => ?_⟩ <;> (have hc := hb; try simp only [go_sem] at hc)) | refine s_ret rfl ?_) | (with_reducible (show callA ..); first | ((first | refine call_s (s1) ?_ ?_ | refine call_s (s2) ?_ ?_); (focus (simp only [go_sem, *]; done)); simp only [go_sem, *])) | ((with_reducible refine Qb ?_ ?_); focus kernel_rfl) | ((with_reducible refine And.intro ?_ ?_); focus omega) | (refine contA_of hK ?_; clear hK K'; simp only [go_sem, *]) | (simp only [thenA, inBlockA, go_sem, *]))
   all_goals first | contradiction | omega | skip
   (refine ⟨[_], [], [], ⟨rfl, trivial⟩, ?_⟩; simp only [go_sem, *])
 ·have q' := idx_no q
  rw [if_pos (.inl q)] at hR
  clear q
  generalize idxP (rowAt p c.street) c.src = ix at *
  subst hR
  refine spec_body Tryz.func133 rfl (fun E hE => ?_); simp only [go_sem, Tryz.ntmps133]
  repeat' (first | (with_reducible (show runOps ..); first | (refine Qr rfl ?_; try intro K' hK; try simp only [go_sem, *]) | (refine Qi rfl rfl rfl rfl (fun hb K' hK => ?_) (fun hb => ?_) <;> (have hc := hb; try simp only [go_sem] at hc; simp only [go_sem, *]))) | (with_reducible (show Hold ..); first | refine Qh rfl ?_ | refine s_draw rfl Tryz.mixed (by kernel_rfl) ?_ | (refine s_cond rfl ⟨_, rfl, fun hb => ?_, fun hb => ?_⟩ <;> (have hc := hb; try simp only [go_sem] at hc)) | refine s_ret rfl ?_) | (with_reducible (show callA ..); first | (refine call_s (s1) ?_ ?_; (focus (simp only [go_sem, *]; done)); simp only [go_sem, *])) | ((with_reducible refine Qb ?_ ?_); focus kernel_rfl) | ((with_reducible refine And.intro ?_ ?_); focus omega) | (refine contA_of hK ?_; clear hK K'; simp only [go_sem, *]) | (simp only [thenA, inBlockA, go_sem, *]))
  all_goals first | contradiction | omega | skip
  (refine ⟨[_], [], [], ⟨rfl, trivial⟩, ?_⟩; simp only [go_sem, *])
theorem fits_k (p : Plan) (c : Change) (hs : 0 ≤ c.street ∧ c.street < p.length) (k : c.kind < 4) : Spec Tryz.prog 133 [encPlan p, c.enc] [] (iV 0) [] := by
 have hs' : c.street.toNat < p.length := by omega
 obtain ⟨hs0, hs1⟩ := hs
 have k7 : (c.kind == 7) = false := by rw [beq_eq_false_iff_ne]; omega
 have k4 : (c.kind == 4) = false := by rw [beq_eq_false_iff_ne]; omega
 have k5 : (c.kind == 5) = false := by rw [beq_eq_false_iff_ne]; omega
 have k6 : (c.kind == 6) = false := by rw [beq_eq_false_iff_ne]; omega
 clear k
 refine spec_body Tryz.func133 rfl (fun E hE => ?_); simp only [go_sem, Tryz.ntmps133]
 repeat' (first | (with_reducible (show runOps ..); first | (refine Qr rfl ?_; try intro K' hK; try simp only [go_sem, *]) | (refine Qi rfl rfl rfl rfl (fun hb K' hK => ?_) (fun hb => ?_) <;> (have hc := hb; try simp only [go_sem] at hc; simp only [go_sem, *]))) | (with_reducible (show Hold ..); first | refine Qh rfl ?_ | refine s_draw rfl Tryz.mixed (by kernel_rfl) ?_ | (refine s_cond rfl ⟨_, rfl, fun hb => ?_, fun hb => ?_⟩ <;> (have hc := hb; try simp only [go_sem] at hc)) | refine s_ret rfl ?_) | ((with_reducible refine Qb ?_ ?_); focus kernel_rfl) | ((with_reducible refine And.intro ?_ ?_); focus omega) | (refine contA_of hK ?_; clear hK K'; simp only [go_sem, *]) | (simp only [thenA, inBlockA, go_sem, *]))
 all_goals first | contradiction | omega | skip
 (refine ⟨[_], [], [], ⟨rfl, trivial⟩, ?_⟩; simp only [go_sem, *])
theorem sp_rfits (p : Plan) (c : Change) (v : Valid p) (hk : 1 ≤ c.kind ∧ c.kind ≤ 7) (hs : 0 ≤ c.street ∧ c.street < p.length) (ho : c.kind = 4 ∨ c.kind = 7 → 0 ≤ c.other ∧ c.other < p.length) : Spec Tryz.prog 133 [encPlan p, c.enc] [] (iV (fitsE p c)) [] := by
 rcases kinds hk with k | k | k | k | k | k | k
 ·rw [show fitsE p c = 0 by simp [fitsE, k]]; exact fits_k p c hs (by omega)
 ·rw [show fitsE p c = 0 by simp [fitsE, k]]; exact fits_k p c hs (by omega)
 ·rw [show fitsE p c = 0 by simp [fitsE, k]]; exact fits_k p c hs (by omega)
 ·exact fits_k4 p c v hs (ho (.inl k)) k _ rfl
 ·exact fits_k5 p c v hs k _ rfl
 ·exact fits_k6 p c v hs k _ rfl
 ·exact fits_k7 p c v hs (ho (.inr k)) k _ rfl
theorem sp_Can (p : Plan) (c : Change) (v : Valid p) : Spec Tryz.prog 98 [encPlan p, c.enc] [] (iV (can p c)) [] := by
 have hp3 := v.len
 obtain ⟨x, hx, s1⟩ := sp_named p c (by omega)
 rw [can_named]
 by_cases e : namedErr p c = 0
 ·rw [if_pos e]
  rw [e] at s1
  have hx2 := hx e
  clear hx
  rw [← hx2]
  by_cases q : c = x
  ·rw [if_pos q]
   have q' : decide (c = x) = true := by simpa using q
   have hb : betw c.kind 1 7 = true ∧ betw c.street 0 ((p.length : Int) - 1) = true ∧ (c.kind = 4 ∨ c.kind = 7 → betw c.other 0 ((p.length : Int) - 1) = true) := by
    unfold namedErr at e
    split at e
    ·omega
    ·rename_i h1
     split at e
     ·omega
     ·rename_i h2
      split at e
      ·omega
      ·rename_i h3
       refine ⟨by simpa using h1, by simpa using h2, fun h => ?_⟩
       cases hh : betw c.other 0 ((p.length : Int) - 1) with
       | true => rfl
       | false => exact absurd ⟨h, hh⟩ h3
   have b1 := betw_iff.1 hb.1
   have b2 := betw_iff.1 hb.2.1
   have s2 := sp_rfits p c v b1 (by omega) (fun h => by have := betw_iff.1 (hb.2.2 h); omega)
   clear q hb b1 b2 e hx2
   refine spec_body Tryz.func98 rfl (fun E hE => ?_); simp only [go_sem, Tryz.ntmps98]
   repeat' (first | (with_reducible (show runOps ..); first | (refine Qr rfl ?_; try intro K' hK; try simp only [go_sem, *])) | (with_reducible (show Hold ..); first | refine Qh rfl ?_ | (refine s_cond rfl ⟨_, rfl, fun hb => ?_, fun hb => ?_⟩ <;> (have hc := hb; try simp only [go_sem] at hc)) | refine s_ret rfl ?_) | (with_reducible (show callA ..); first | ((first | refine call_s (s1) ?_ ?_ | refine call_s (s2) ?_ ?_); (focus (simp only [go_sem, *]; done)); simp only [go_sem, *])) | ((with_reducible refine Qb ?_ ?_); focus kernel_rfl) | ((with_reducible refine And.intro ?_ ?_); focus omega) | (refine contA_of hK ?_; clear hK K'; simp only [go_sem, *]) | (simp only [thenA, inBlockA, go_sem, *]))
   all_goals first | contradiction | skip
   (refine ⟨[_], [], [], ⟨rfl, trivial⟩, ?_⟩; simp only [go_sem, *])
  ·rw [if_neg q]
   have q' : decide (c = x) = false := by simpa using q
   clear q e hx2
   refine spec_body Tryz.func98 rfl (fun E hE => ?_); simp only [go_sem, Tryz.ntmps98]
   repeat' (first | (with_reducible (show runOps ..); first | (refine Qr rfl ?_; try intro K' hK; try simp only [go_sem, *])) | (with_reducible (show Hold ..); first | refine Qh rfl ?_ | (refine s_cond rfl ⟨_, rfl, fun hb => ?_, fun hb => ?_⟩ <;> (have hc := hb; try simp only [go_sem] at hc)) | refine s_ret rfl ?_) | (with_reducible (show callA ..); first | (refine call_s (s1) ?_ ?_; (focus (simp only [go_sem, *]; done)); simp only [go_sem, *])) | ((with_reducible refine Qb ?_ ?_); focus kernel_rfl) | ((with_reducible refine And.intro ?_ ?_); focus omega) | (refine contA_of hK ?_; clear hK K'; simp only [go_sem, *]) | (simp only [thenA, inBlockA, go_sem, *]))
   all_goals first | contradiction | skip
   (refine ⟨[_], [], [], ⟨rfl, trivial⟩, ?_⟩; simp only [go_sem, *])
 ·rw [if_neg e]
  have e' : (namedErr p c == 0) = false := by rw [beq_eq_false_iff_ne]; exact e
  clear hx
  generalize namedErr p c = er at *
  refine spec_body Tryz.func98 rfl (fun E hE => ?_); simp only [go_sem, Tryz.ntmps98]
  repeat' (first | (with_reducible (show runOps ..); first | (refine Qr rfl ?_; try intro K' hK; try simp only [go_sem, *])) | (with_reducible (show Hold ..); first | refine Qh rfl ?_ | (refine s_cond rfl ⟨_, rfl, fun hb => ?_, fun hb => ?_⟩ <;> (have hc := hb; try simp only [go_sem] at hc)) | refine s_ret rfl ?_) | (with_reducible (show callA ..); first | (refine call_s (s1) ?_ ?_; (focus (simp only [go_sem, *]; done)); simp only [go_sem, *])) | ((with_reducible refine Qb ?_ ?_); focus kernel_rfl) | ((with_reducible refine And.intro ?_ ?_); focus omega) | (refine contA_of hK ?_; clear hK K'; simp only [go_sem, *]) | (simp only [thenA, inBlockA, go_sem, *]))
  all_goals first | contradiction | skip
  (refine ⟨[_], [], [], ⟨rfl, trivial⟩, ?_⟩; simp only [go_sem, *])
end Go.Abs

namespace Go.Abs
open Go Go.Proofs
set_option maxRecDepth 10000
set_option maxHeartbeats 4000000
end Go.Abs

namespace Go.Abs
open Go Go.Proofs
set_option maxRecDepth 10000
set_option maxHeartbeats 4000000
def mvs (p : Plan) (c : Change) (h : House) : List Move := (mv p c h).map fun z => ⟨h, z⟩
end Go.Abs

namespace Go.Abs
open Go Go.Proofs
set_option maxRecDepth 10000
set_option maxHeartbeats 4000000
end Go.Abs

namespace Go.Abs
open Go Go.Proofs
set_option maxRecDepth 10000
set_option maxHeartbeats 4000000
end Go.Abs

namespace Go.Abs
open Go Go.Proofs
set_option maxRecDepth 10000
set_option maxHeartbeats 4000000
theorem take_L {α : Type} [Inhabited α] {l : List α} {i : Nat} {x : α} (h : i < l.length) (e : l.getD i default = x) : l.take (i + 1) = l.take i ++ [x] := by rw [take_succ_getD h, e]
theorem sp_rChanges (p : Plan) (v : Valid p) : Spec Tryz.prog 35 [encPlan p] [] (.list ((changesOf p).map Change.enc)) [] := by
 have hp3 := v.len
 have hRl := changesOf_len v
 have hR0 : ([] : List Change) ++ chK (6 - 0) p = changesOf p := (chK_eq p).symm
 have sC := fun c => sp_Can p c v
 generalize changesOf p = R at *
 refine spec_body Tryz.func35 rfl (fun E hE => ?_); simp only [go_sem, Tryz.ntmps35]
 repeat' (first | (with_reducible (show runOps ..); first | (refine Qr rfl ?_; try intro K' hK; try simp only [go_sem, *])) | (with_reducible (show Hold ..); first | refine Qh rfl ?_ | refine s_draw rfl Tryz.mixed (by kernel_rfl) ?_ | (refine s_cond rfl ⟨_, rfl, fun hb => ?_, fun hb => ?_⟩ <;> (have hc := hb; try simp only [go_sem] at hc)) | refine s_ret rfl ?_) | ((with_reducible refine Qb ?_ ?_); focus kernel_rfl) | ((with_reducible refine And.intro ?_ ?_); focus omega) | (refine contA_of hK ?_; clear hK K'; simp only [go_sem, *]) | (simp only [thenA, inBlockA, go_sem, *]))
 refine s_loop rfl (fun zn zN zenv zAs => ∃ (m : Nat) (acc : List Change), zn = (6) - m ∧ m ≤ (6) ∧ (acc ++ chK (6 - m) p = R) ∧ zN = 92 ∧ zenv = [(4, iV ((m : Int) + 1)), (3, .own 1 7 0 acc.length), (1, .ptr 0 0)] ∧ zAs = [pBox p, .row 7 (acc.map Change.enc)]) (6) ⟨[some 0, none], [], _, _, _, (by (simp only [Weak, go_sem, List.map_append, List.map_set, *] <;> (try simp (disch := omega) only [wrap_succ]) <;> (try simp) <;> (try omega))), 0, [], (by simp), (by simp), (by exact hR0), rfl, rfl, rfl⟩ ?_; rintro _ _ _ _ ⟨m, acc, rfl, hm, hP, rfl, rfl, rfl⟩
 clear hR0
 have hw : m < 6 → IntKind.i64.wrap ((m : Int) + 1 + 1) = (((m + 1 : Nat) : Int) + 1) := fun h => by rw [wrap_i64 (by omega) (by omega)]; omega
 have hm6 : ((m : Int) + 1 ≤ 6) = (m < 6) := by simp only [eq_iff_iff]; omega
 by_cases hm : m < 6
 ·obtain ⟨kk, hkk⟩ : ∃ kk : Int, kk = (m : Int) + 1 := ⟨_, rfl⟩
  have hstep : chK (6 - m) p = chFrom kk p 0 ++ chK (6 - (m + 1)) p := by
   rw [show 6 - m = (6 - (m + 1)) + 1 by omega, chK, hkk]
   congr 2
   omega
  rw [hstep] at hP
  have hw2 : IntKind.i64.wrap (kk + 1) = ((m + 1 : Nat) : Int) + 1 := by rw [hkk, hw hm]
  have hk6 : kk ≤ 6 := by omega
  clear hw
  rw [← hkk] at *
  clear hstep
  repeat' (first | (with_reducible (show runOps ..); first | (refine Qr rfl ?_; try intro K' hK; try simp only [go_sem, *])) | (with_reducible (show Hold ..); first | refine Qh rfl ?_ | refine s_draw rfl Tryz.mixed (by kernel_rfl) ?_ | (refine s_cond rfl ⟨_, rfl, fun hb => ?_, fun hb => ?_⟩ <;> (have hc := hb; try simp only [go_sem] at hc)) | refine s_ret rfl ?_) | ((with_reducible refine Qb ?_ ?_); focus kernel_rfl) | ((with_reducible refine And.intro ?_ ?_); focus omega) | (refine contA_of hK ?_; clear hK K'; simp only [go_sem, *]) | (simp only [thenA, inBlockA, go_sem, *]))
  refine s_loop rfl (fun zn zN zenv zAs => ∃ (s : Nat) (acc : List Change), zn = (p.length) - s ∧ s ≤ (p.length) ∧ (acc ++ (chFrom kk p s ++ chK (6 - (m + 1)) p) = R) ∧ zN = 92 ∧ zenv = [(5, iV s), (4, iV kk), (3, .own 1 7 0 acc.length), (1, .ptr 0 0)] ∧ zAs = [pBox p, .row 7 (acc.map Change.enc)]) (p.length) ⟨[some 0, some 1], [], _, _, _, (by (simp only [Weak, go_sem, List.map_append, List.map_set, *] <;> (try simp (disch := omega) only [wrap_succ]) <;> (try simp) <;> (try omega))), 0, acc, (by simp), (by simp), (by exact hP), rfl, rfl, rfl⟩ ?_; rintro _ _ _ _ ⟨s, acc, rfl, hs, hQ, rfl, rfl, rfl⟩
  clear hP
  by_cases hs : s < p.length
  ·rw [chFrom_step hs] at hQ
   have hrow : (p.getD s default).length ≤ 8 := (v.rows _ (getD_mem hs)).len
   obtain ⟨L, hL⟩ : ∃ L, L = changesAt kk p s := ⟨_, rfl⟩
   rw [← hL] at hQ
   have hLl : L.length ≤ 8 := by
    rw [hL]; unfold changesAt
    split
    ·simp only [List.length_map, List.length_range]; omega
    ·split
     ·simpa using hrow
     ·simp
   have k47 : (kk == 4) = decide (kk = 4) := by rw [Bool.eq_iff_iff]; simp
   by_cases k4 : kk = 4
   case' pos =>
    have hLn : L.length = p.length := by rw [hL, k4, changesAt_join]; simp
    have hLg : ∀ o, o < p.length → L.getD o default = ⟨kk, s, o, zeroPlate, zeroPlate⟩ := fun o ho => by rw [hL, k4, changesAt_join]; simp [List.getD, ho]
    have d4 : decide (kk = 4) = true := decide_eq_true k4
    clear hL k4
    repeat' (first | (with_reducible (show runOps ..); first | (refine Qr rfl ?_; try intro K' hK; try simp only [go_sem, *])) | (with_reducible (show Hold ..); first | refine Qh rfl ?_ | refine s_draw rfl Tryz.mixed (by kernel_rfl) ?_ | (refine s_cond rfl ⟨_, rfl, fun hb => ?_, fun hb => ?_⟩ <;> (have hc := hb; try simp only [go_sem] at hc)) | refine s_ret rfl ?_) | ((with_reducible refine Qb ?_ ?_); focus kernel_rfl) | ((with_reducible refine And.intro ?_ ?_); focus omega) | (refine contA_of hK ?_; clear hK K'; simp only [go_sem, *]) | (simp only [thenA, inBlockA, go_sem, *]))
    all_goals first | contradiction | omega | skip
    refine s_loop rfl (fun zn zN zenv zAs => ∃ (o : Nat), zn = (p.length) - o ∧ o ≤ (p.length) ∧ (NoP o) ∧ zN = 92 ∧ zenv = [(7, iV o), (6, .own 2 7 0 o), (5, iV s), (4, iV kk), (3, .own 1 7 0 acc.length), (1, .ptr 0 0)] ∧ zAs = [pBox p, .row 7 (acc.map Change.enc), .row 7 ((L.take o).map Change.enc)]) (p.length) ⟨[some 0, some 1, none], [], _, _, _, (by (simp only [Weak, go_sem, List.map_append, List.map_set, *] <;> (try simp (disch := omega) only [wrap_succ]) <;> (try simp) <;> (try omega))), 0, (by simp), (by simp), (by trivial), rfl, rfl, rfl⟩ ?_; rintro _ _ _ _ ⟨o, rfl, ho, hS, rfl, rfl, rfl⟩
    by_cases ho : o < p.length
    ·have ho3 : (o : Int) < p.length := by omega
     have e := take_L (l := L) (i := o) (by omega) (hLg o ho)
     clear hLg
     repeat' (first | (with_reducible (show runOps ..); first | (refine Qr rfl ?_; try intro K' hK; try simp only [go_sem, *])) | (with_reducible (show Hold ..); first | refine Qh rfl ?_ | refine s_draw rfl Tryz.mixed (by kernel_rfl) ?_ | (refine s_cond rfl ⟨_, rfl, fun hb => ?_, fun hb => ?_⟩ <;> (have hc := hb; try simp only [go_sem] at hc)) | refine s_ret rfl ?_) | ((with_reducible refine Qb ?_ ?_); focus kernel_rfl) | ((with_reducible refine And.intro ?_ ?_); focus omega) | (refine contA_of hK ?_; clear hK K'; simp only [go_sem, *]) | (simp only [thenA, inBlockA, go_sem, *]))
     all_goals first | contradiction | omega | skip
     refine ⟨_, (by omega), [some 0, some 1, some 4], [], _, _, _, (by (simp only [Weak, go_sem, List.map_append, List.map_set, *] <;> (try simp (disch := omega) only [wrap_succ]) <;> (try simp) <;> (try omega))), o + 1, rfl, (by omega), (by trivial), rfl, rfl, rfl⟩
    have ho3 : ¬ (o : Int) < p.length := by omega
    have e : L.take o = L := List.take_of_length_le (by omega)
    have e2 : o = L.length := by omega
    subst e2
    clear hLg hLn
    repeat' (first | (with_reducible (show runOps ..); first | (refine Qr rfl ?_; try intro K' hK; try simp only [go_sem, *])) | (with_reducible (show Hold ..); first | refine Qh rfl ?_ | refine s_draw rfl Tryz.mixed (by kernel_rfl) ?_ | (refine s_cond rfl ⟨_, rfl, fun hb => ?_, fun hb => ?_⟩ <;> (have hc := hb; try simp only [go_sem] at hc)) | refine s_ret rfl ?_) | ((with_reducible refine Qb ?_ ?_); focus kernel_rfl) | ((with_reducible refine And.intro ?_ ?_); focus omega) | (refine contA_of hK ?_; clear hK K'; simp only [go_sem, *]) | (simp only [thenA, inBlockA, go_sem, *]))
    all_goals first | contradiction | omega | skip
    refine s_loop rfl (fun zn zN zenv zAs => ∃ (j : Nat) (acc : List Change), zn = (L.length) - j ∧ j ≤ (L.length) ∧ (acc ++ (canL p (L.drop j) ++ chFrom kk p (s + 1) ++ chK (6 - (m + 1)) p) = R) ∧ zN = 92 ∧ zenv = [(9, iV j), (6, .own 2 7 0 L.length), (5, iV s), (4, iV kk), (3, .own 1 7 0 acc.length), (1, .ptr 0 0)] ∧ zAs = [pBox p, .row 7 (acc.map Change.enc), .row 7 (L.map Change.enc)]) (L.length) ⟨[some 0, some 1, some 2], [], _, _, _, (by (simp only [Weak, go_sem, List.map_append, List.map_set, *] <;> (try simp (disch := omega) only [wrap_succ]) <;> (try simp) <;> (try omega))), 0, acc, (by simp), (by simp), (by exact hQ), rfl, rfl, rfl⟩ ?_; rintro _ _ _ _ ⟨j, acc, rfl, hj, hS2, rfl, rfl, rfl⟩
   case' neg =>
    have d4 : decide (kk = 4) = false := decide_eq_false k4
    by_cases k5 : kk = 5 ∨ kk = 6
    case' pos =>
     have hc5 : (kk == 5) = true ∨ (kk == 5) = false ∧ (kk == 6) = true := by
      rcases k5 with k5 | k5
      ·exact .inl (by simpa using k5)
      ·exact .inr ⟨by simp [k5], by simpa using k5⟩
     rw [changesAt_each k4 k5] at hL
     generalize hll : p.getD s default = l at *
     have hLn : L.length = l.length := by rw [hL]; simp
     have hLg : ∀ o, o < l.length → L.getD o default = ⟨kk, s, 0, l.getD o default, zeroPlate⟩ := fun o ho => by rw [hL]; simp [List.getD, ho]
     clear hL k4 k5
     rcases hc5 with k5 | ⟨k5, k6⟩
     all_goals
      repeat' (first | (with_reducible (show runOps ..); first | (refine Qr rfl ?_; try intro K' hK; try simp only [go_sem, *])) | (with_reducible (show Hold ..); first | refine Qh rfl ?_ | refine s_draw rfl Tryz.mixed (by kernel_rfl) ?_ | (refine s_cond rfl ⟨_, rfl, fun hb => ?_, fun hb => ?_⟩ <;> (have hc := hb; try simp only [go_sem] at hc)) | refine s_ret rfl ?_) | ((with_reducible refine Qb ?_ ?_); focus kernel_rfl) | ((with_reducible refine And.intro ?_ ?_); focus omega) | (refine contA_of hK ?_; clear hK K'; simp only [go_sem, *]) | (simp only [thenA, inBlockA, go_sem, *]))
      all_goals first | contradiction | omega | skip
      refine s_loop rfl (fun zn zN zenv zAs => ∃ (o : Nat), zn = (l.length) - o ∧ o ≤ (l.length) ∧ (NoP o) ∧ zN = 92 ∧ zenv = [(8, iV o), (6, .own 2 7 0 o), (5, iV s), (4, iV kk), (3, .own 1 7 0 acc.length), (1, .ptr 0 0)] ∧ zAs = [pBox p, .row 7 (acc.map Change.enc), .row 7 ((L.take o).map Change.enc)]) (l.length) ⟨[some 0, some 1, none], [], _, _, _, (by (simp only [Weak, go_sem, List.map_append, List.map_set, *] <;> (try simp (disch := omega) only [wrap_succ]) <;> (try simp) <;> (try omega))), 0, (by simp), (by simp), (by trivial), rfl, rfl, rfl⟩ ?_; rintro _ _ _ _ ⟨o, rfl, ho, hS, rfl, rfl, rfl⟩
      by_cases ho : o < l.length
      ·have ho3 : (o : Int) < l.length := by omega
       have e := take_L (l := L) (i := o) (by omega) (hLg o ho)
       clear hLg
       repeat' (first | (with_reducible (show runOps ..); first | (refine Qr rfl ?_; try intro K' hK; try simp only [go_sem, *])) | (with_reducible (show Hold ..); first | refine Qh rfl ?_ | refine s_draw rfl Tryz.mixed (by kernel_rfl) ?_ | (refine s_cond rfl ⟨_, rfl, fun hb => ?_, fun hb => ?_⟩ <;> (have hc := hb; try simp only [go_sem] at hc)) | refine s_ret rfl ?_) | ((with_reducible refine Qb ?_ ?_); focus kernel_rfl) | ((with_reducible refine And.intro ?_ ?_); focus omega) | (refine contA_of hK ?_; clear hK K'; simp only [go_sem, *]) | (simp only [thenA, inBlockA, go_sem, *]))
       all_goals first | contradiction | omega | skip
       refine ⟨_, (by omega), [some 0, some 1, some 4], [], _, _, _, (by (simp only [Weak, go_sem, List.map_append, List.map_set, *] <;> (try simp (disch := omega) only [wrap_succ]) <;> (try simp) <;> (try omega))), o + 1, rfl, (by omega), (by trivial), rfl, rfl, rfl⟩
      have ho3 : ¬ (o : Int) < l.length := by omega
      have e : L.take o = L := List.take_of_length_le (by omega)
      have e2 : o = L.length := by omega
      subst e2
      clear hLg hLn
      repeat' (first | (with_reducible (show runOps ..); first | (refine Qr rfl ?_; try intro K' hK; try simp only [go_sem, *])) | (with_reducible (show Hold ..); first | refine Qh rfl ?_ | refine s_draw rfl Tryz.mixed (by kernel_rfl) ?_ | (refine s_cond rfl ⟨_, rfl, fun hb => ?_, fun hb => ?_⟩ <;> (have hc := hb; try simp only [go_sem] at hc)) | refine s_ret rfl ?_) | ((with_reducible refine Qb ?_ ?_); focus kernel_rfl) | ((with_reducible refine And.intro ?_ ?_); focus omega) | (refine contA_of hK ?_; clear hK K'; simp only [go_sem, *]) | (simp only [thenA, inBlockA, go_sem, *]))
      all_goals first | contradiction | omega | skip
      clear hll
      refine s_loop rfl (fun zn zN zenv zAs => ∃ (j : Nat) (acc : List Change), zn = (L.length) - j ∧ j ≤ (L.length) ∧ (acc ++ (canL p (L.drop j) ++ chFrom kk p (s + 1) ++ chK (6 - (m + 1)) p) = R) ∧ zN = 92 ∧ zenv = [(9, iV j), (6, .own 2 7 0 L.length), (5, iV s), (4, iV kk), (3, .own 1 7 0 acc.length), (1, .ptr 0 0)] ∧ zAs = [pBox p, .row 7 (acc.map Change.enc), .row 7 (L.map Change.enc)]) (L.length) ⟨[some 0, some 1, some 2], [], _, _, _, (by (simp only [Weak, go_sem, List.map_append, List.map_set, *] <;> (try simp (disch := omega) only [wrap_succ]) <;> (try simp) <;> (try omega))), 0, acc, (by simp), (by simp), (by exact hQ), rfl, rfl, rfl⟩ ?_; rintro _ _ _ _ ⟨j, acc, rfl, hj, hS2, rfl, rfl, rfl⟩
    case' neg =>
     have k55 : (kk == 5) = false := by simp only [not_or] at k5; simpa using k5.1
     have k6 : (kk == 6) = false := by simp only [not_or] at k5; simpa using k5.2
     rw [changesAt_else k4 k5] at hL
     clear k4 k5
     repeat' (first | (with_reducible (show runOps ..); first | (refine Qr rfl ?_; try intro K' hK; try simp only [go_sem, *])) | (with_reducible (show Hold ..); first | refine Qh rfl ?_ | refine s_draw rfl Tryz.mixed (by kernel_rfl) ?_ | (refine s_cond rfl ⟨_, rfl, fun hb => ?_, fun hb => ?_⟩ <;> (have hc := hb; try simp only [go_sem] at hc)) | refine s_ret rfl ?_) | ((with_reducible refine Qb ?_ ?_); focus kernel_rfl) | ((with_reducible refine And.intro ?_ ?_); focus omega) | (refine contA_of hK ?_; clear hK K'; simp only [go_sem, *]) | (simp only [thenA, inBlockA, go_sem, *]))
     all_goals first | contradiction | omega | skip
     refine s_loop rfl (fun zn zN zenv zAs => ∃ (j : Nat) (acc : List Change), zn = (L.length) - j ∧ j ≤ (L.length) ∧ (acc ++ (canL p (L.drop j) ++ chFrom kk p (s + 1) ++ chK (6 - (m + 1)) p) = R) ∧ zN = 92 ∧ zenv = [(9, iV j), (6, .own 2 7 0 L.length), (5, iV s), (4, iV kk), (3, .own 1 7 0 acc.length), (1, .ptr 0 0)] ∧ zAs = [pBox p, .row 7 (acc.map Change.enc), .row 7 (L.map Change.enc)]) (L.length) ⟨[some 0, some 1, some 3], [], _, _, _, (by (simp only [Weak, go_sem, List.map_append, List.map_set, *] <;> (try simp (disch := omega) only [wrap_succ]) <;> (try simp) <;> (try omega))), 0, acc, (by simp), (by simp), (by exact hQ), rfl, rfl, rfl⟩ ?_; rintro _ _ _ _ ⟨j, acc, rfl, hj, hS2, rfl, rfl, rfl⟩
     clear hL
   all_goals
    clear hQ
    have hql := congrArg List.length hS2
    simp only [List.length_append] at hql
    by_cases hj : j < L.length
    ·have hj3 : (j : Int) < L.length := by omega
     have sc := sC (L.getD j default)
     by_cases q : can p (L.getD j default) = 0
     ·rw [canL_yes hj q] at hS2
      rw [q] at sc
      clear q
      repeat' (first | (with_reducible (show runOps ..); first | (refine Qr rfl ?_; try intro K' hK; try simp only [go_sem, *])) | (with_reducible (show Hold ..); first | refine Qh rfl ?_ | refine s_draw rfl Tryz.mixed (by kernel_rfl) ?_ | (refine s_cond rfl ⟨_, rfl, fun hb => ?_, fun hb => ?_⟩ <;> (have hc := hb; try simp only [go_sem] at hc)) | refine s_ret rfl ?_) | (with_reducible (show callA ..); first | (refine call_s (sc) ?_ ?_; (focus (simp only [go_sem, *]; done)); simp only [go_sem, *])) | ((with_reducible refine Qb ?_ ?_); focus kernel_rfl) | ((with_reducible refine And.intro ?_ ?_); focus omega) | (refine contA_of hK ?_; clear hK K'; simp only [go_sem, *]) | (simp only [thenA, inBlockA, go_sem, *]))
      all_goals first | contradiction | omega | skip
      refine ⟨_, (by omega), [some 0, some 4, some 2], [], _, _, _, (by (simp only [Weak, go_sem, List.map_append, List.map_set, *] <;> (try simp (disch := omega) only [wrap_succ]) <;> (try simp) <;> (try omega))), j + 1, acc ++ [L.getD j default], rfl, (by omega), (by rw [← hS2]; simp), rfl, rfl, rfl⟩
     ·have q' : (can p (L.getD j default) == 0) = false := by simpa using q
      rw [canL_no hj q] at hS2
      clear q
      repeat' (first | (with_reducible (show runOps ..); first | (refine Qr rfl ?_; try intro K' hK; try simp only [go_sem, *])) | (with_reducible (show Hold ..); first | refine Qh rfl ?_ | refine s_draw rfl Tryz.mixed (by kernel_rfl) ?_ | (refine s_cond rfl ⟨_, rfl, fun hb => ?_, fun hb => ?_⟩ <;> (have hc := hb; try simp only [go_sem] at hc)) | refine s_ret rfl ?_) | (with_reducible (show callA ..); first | (refine call_s (sc) ?_ ?_; (focus (simp only [go_sem, *]; done)); simp only [go_sem, *])) | ((with_reducible refine Qb ?_ ?_); focus kernel_rfl) | ((with_reducible refine And.intro ?_ ?_); focus omega) | (refine contA_of hK ?_; clear hK K'; simp only [go_sem, *]) | (simp only [thenA, inBlockA, go_sem, *]))
      all_goals first | contradiction | omega | skip
      refine ⟨_, (by omega), [some 0, some 1, some 2], [], _, _, _, (by (simp only [Weak, go_sem, List.map_append, List.map_set, *] <;> (try simp (disch := omega) only [wrap_succ]) <;> (try simp) <;> (try omega))), j + 1, acc, rfl, (by omega), (by exact hS2), rfl, rfl, rfl⟩
    ·have hj3 : ¬ (j : Int) < L.length := by omega
     rw [canL_end (by omega), List.nil_append] at hS2
     repeat' (first | (with_reducible (show runOps ..); first | (refine Qr rfl ?_; try intro K' hK; try simp only [go_sem, *])) | (with_reducible (show Hold ..); first | refine Qh rfl ?_ | refine s_draw rfl Tryz.mixed (by kernel_rfl) ?_ | (refine s_cond rfl ⟨_, rfl, fun hb => ?_, fun hb => ?_⟩ <;> (have hc := hb; try simp only [go_sem] at hc)) | refine s_ret rfl ?_) | ((with_reducible refine Qb ?_ ?_); focus kernel_rfl) | ((with_reducible refine And.intro ?_ ?_); focus omega) | (refine contA_of hK ?_; clear hK K'; simp only [go_sem, *]) | (simp only [thenA, inBlockA, go_sem, *]))
     all_goals first | contradiction | omega | skip
     refine ⟨_, (by omega), [some 0, some 1], [], _, _, _, (by (simp only [Weak, go_sem, List.map_append, List.map_set, *] <;> (try simp (disch := omega) only [wrap_succ]) <;> (try simp) <;> (try omega))), s + 1, acc, rfl, (by omega), (by simpa using hS2), rfl, rfl, rfl⟩
  ·have hs3 : ¬ (s : Int) < p.length := by omega
   rw [chFrom_end (by omega), List.nil_append] at hQ
   repeat' (first | (with_reducible (show runOps ..); first | (refine Qr rfl ?_; try intro K' hK; try simp only [go_sem, *])) | (with_reducible (show Hold ..); first | refine Qh rfl ?_ | refine s_draw rfl Tryz.mixed (by kernel_rfl) ?_ | (refine s_cond rfl ⟨_, rfl, fun hb => ?_, fun hb => ?_⟩ <;> (have hc := hb; try simp only [go_sem] at hc)) | refine s_ret rfl ?_) | ((with_reducible refine Qb ?_ ?_); focus kernel_rfl) | ((with_reducible refine And.intro ?_ ?_); focus omega) | (refine contA_of hK ?_; clear hK K'; simp only [go_sem, *]) | (simp only [thenA, inBlockA, go_sem, *]))
   all_goals first | contradiction | omega | skip
   refine ⟨_, (by omega), [some 0, some 1], [], _, _, _, (by (simp only [Weak, go_sem, List.map_append, List.map_set, *] <;> (try simp (disch := omega) only [wrap_succ]) <;> (try simp) <;> (try omega))), m + 1, acc, rfl, (by omega), (by exact hQ), rfl, rfl, rfl⟩
 ·have h6 : 6 - m = 0 := by omega
  rw [h6] at hP
  simp only [chK, List.append_nil] at hP
  subst hP
  clear hw
  have hm7 : ¬ ((m : Int) + 1 ≤ 6) := by omega
  repeat' (first | (with_reducible (show runOps ..); first | (refine Qr rfl ?_; try intro K' hK; try simp only [go_sem, *])) | (with_reducible (show Hold ..); first | refine Qh rfl ?_ | refine s_draw rfl Tryz.mixed (by kernel_rfl) ?_ | (refine s_cond rfl ⟨_, rfl, fun hb => ?_, fun hb => ?_⟩ <;> (have hc := hb; try simp only [go_sem] at hc)) | refine s_ret rfl ?_) | ((with_reducible refine Qb ?_ ?_); focus kernel_rfl) | ((with_reducible refine And.intro ?_ ?_); focus omega) | (refine contA_of hK ?_; clear hK K'; simp only [go_sem, *]) | (simp only [thenA, inBlockA, go_sem, *]))
  all_goals first | contradiction | omega | skip
  refine ⟨[_], [], [1], ⟨rfl, trivial⟩, ?_⟩
  simp only [go_sem, *]
end Go.Abs

namespace Go.Abs
open Go Go.Proofs
set_option maxRecDepth 10000
set_option maxHeartbeats 4000000
def GuP (p q : Plan) (dd : Dice) : Prop := Valid q ∧ q.length = p.length ∧ dd.list.length ≤ 4294967296
theorem aft_ok {p : Plan} {c : Change} (v : Valid p) (e : can p c = 0) : errOf p c = 0 ∧ Valid (afterOf p c) ∧ (afterOf p c).length = p.length := by
 refine ⟨?_, valid_after v (Fit.of_can e), laid_length _ _⟩
 unfold errOf; rw [if_pos ((check_zero p).2 v)]; exact e
theorem guess_sp {p q : Plan} (v : Valid p) (w : Valid q) (hl : q.length = p.length) : Spec Tryz.prog 31 [encPlan p, encPlan q] [] (.tup [.list ((optL (guessOf p q)).map Change.enc), iV (if (guessOf p q).isSome = true then 0 else 11)]) [] :=
 sp_Guess_found p q ((check_zero p).2 v) ((check_zero q).2 w) hl.symm _ rfl
theorem sp_StreetGuessed (nums : List Int) (h : nums.length ≤ 4294967296) : Spec Tryz.prog 6 [encInts nums] [] (bV true) [] := by
 have s1 := sp_NewDice nums
 have s2 := sp_PlanOf (newDice nums) 3 h (by omega)
 have v := planOf_ok (d := newDice nums) (houses := 3) (by omega)
 have hl := planOf_list (newDice nums) 3
 generalize planOf (newDice nums) 3 = P at *
 obtain ⟨p, d1⟩ := P
 simp only at s2 v hl
 have hp3 := v.len
 have hdl : d1.list.length ≤ 4294967296 := by rw [hl]; exact h
 have s3 := sp_To d1 2 hdl (by omega)
 have hr := toN_le (n := 2) (by omega) d1
 have hdl2 : (toD 2 d1).list.length ≤ 4294967296 := by rw [toD_list]; exact hdl
 obtain ⟨n, hn⟩ : ∃ n : Nat, toN 2 d1 = n := ⟨(toN 2 d1).toNat, by omega⟩
 rw [hn] at hr s3
 clear hn hl h
 generalize toD 2 d1 = d2 at *
 have sw := sp_walking
 have h0 : GuP p p d2 := ⟨v, rfl, hdl2⟩
 clear hdl hdl2
 refine spec_body Tryz.func6 rfl (fun E hE => ?_); simp only [go_sem, Tryz.ntmps6]
 repeat' (first | (with_reducible (show runOps ..); first | (refine Qr rfl ?_; try intro K' hK; try simp only [go_sem, *]) | (refine Qi rfl rfl rfl rfl (fun hb K' hK => ?_) (fun hb => ?_) <;> (have hc := hb; try simp only [go_sem] at hc; simp only [go_sem, *]))) | (with_reducible (show Hold ..); first | refine Qh rfl ?_ | refine s_draw rfl Tryz.mixed (by kernel_rfl) ?_ | (refine s_cond rfl ⟨_, rfl, fun hb => ?_, fun hb => ?_⟩ <;> (have hc := hb; try simp only [go_sem] at hc)) | refine s_ret rfl ?_) | (with_reducible (show callA ..); first | (refine call_n (s1) ?_ ?_ ?_ ?_; (focus (simp only [go_sem, *]; done)); (focus (first | (simp; done) | (simp [go_sem]; done))); (focus (first | (simp; done) | (simp [go_sem]; done))); simp only [go_sem, *]) | (refine call_of [0] [] (s2) (by simp) ?_ ?_ (by simp) (.inl rfl) ?_ ?_ ?_; (focus (simp only [go_sem, *]; done)); (focus (simp only [go_sem, *]; done)); (focus (first | (simp; done) | (simp [go_sem]; done))); (focus (first | (simp; done) | (simp [go_sem]; done))); simp only [go_sem, *]) | (refine call_of [0] [] (s3) (by simp) ?_ ?_ (by simp) (.inl rfl) ?_ ?_ ?_; (focus (simp only [go_sem, *]; done)); (focus (simp only [go_sem, *]; done)); (focus (first | (simp; done) | (simp [go_sem]; done))); (focus (first | (simp; done) | (simp [go_sem]; done))); simp only [go_sem, *])) | ((with_reducible refine Qb ?_ ?_); focus kernel_rfl) | ((with_reducible refine And.intro ?_ ?_); focus omega) | (refine contA_of hK ?_; clear hK K'; simp only [go_sem, *]) | (simp only [thenA, inBlockA, go_sem, *]))
 all_goals first | contradiction | skip
 clear s1 s2 s3
 refine s_loop rfl (fun zn zN zenv zAs => ∃ (i : Nat) (dd : Dice) (q : Plan), zn = (n) - i ∧ i ≤ (n) ∧ (GuP p q dd) ∧ zN = 200 ∧ zenv = [(6, iV ((n - i : Nat) : Int)), (5, .ptr 2 0), (4, .ptr 1 0), (3, .ptr 0 0)] ∧ zAs = [diceBox dd, pBox p, pBox q]) (n) ⟨[some 0, some 1, some 2], [], _, _, _, (by (simp only [Weak, go_sem, List.map_append, List.map_set, *] <;> (try simp (disch := omega) only [wrap_succ]) <;> (try simp) <;> (try omega))), 0, d2, p, (by simp), (by simp), (by exact h0), rfl, rfl, rfl⟩ ?_; rintro _ _ _ _ ⟨i, dd, q, rfl, hi, hP, rfl, rfl, rfl⟩
 clear h0
 obtain ⟨vq, hql, hdd⟩ := hP
 by_cases hi2 : i < n
 ·obtain ⟨k, hk⟩ : ∃ k, n - i = k + 1 := ⟨n - i - 1, by omega⟩
  have hk2 : n - (i + 1) = k := by omega
  rw [hk]
  have hw1 : IntKind.i64.wrap (((k + 1 : Nat) : Int) - 1) = (k : Int) := by rw [wrap_i64 (by omega) (by omega)]; omega
  have hgt : ((k + 1 : Nat) : Int) > 0 := by omega
  have sC := sp_ChangeOf dd q hdd vq
  have hdd2 : (changeOf dd q).2.list.length ≤ 4294967296 := by rw [changeOf_list]; exact hdd
  generalize changeOf dd q = C at *
  obtain ⟨c, d3⟩ := C
  simp only at sC hdd2
  have sA := sp_After q c (by omega)
  by_cases e : errOf q c = 0
  ·rw [if_pos e, e] at sA
   obtain ⟨_, f⟩ := err_zero e
   have vx := valid_after vq f
   have hx : (afterOf q c).length = q.length := laid_length _ _
   have hx3 := vx.len
   have sW := sp_wide (afterOf q c) (by omega) false (wide_valid vx)
   have sK := sp_Check (afterOf q c) (by omega)
   rw [(check_zero _).2 vx] at sK
   generalize afterOf q c = x at *
   have hxp : x.length = p.length := by omega
   have hG : GuP p x d3 := ⟨vx, hxp, hdd2⟩
   clear e f hx hql
   repeat' (first | (with_reducible (show runOps ..); first | (refine Qr rfl ?_; try intro K' hK; try simp only [go_sem, *]) | (refine Qi rfl rfl rfl rfl (fun hb K' hK => ?_) (fun hb => ?_) <;> (have hc := hb; try simp only [go_sem] at hc; simp only [go_sem, *]))) | (with_reducible (show Hold ..); first | refine Qh rfl ?_ | refine s_draw rfl Tryz.mixed (by kernel_rfl) ?_ | (refine s_cond rfl ⟨_, rfl, fun hb => ?_, fun hb => ?_⟩ <;> (have hc := hb; try simp only [go_sem] at hc)) | refine s_ret rfl ?_) | (with_reducible (show callA ..); first | ((first | refine call_s (sA) ?_ ?_ | refine call_s (sW) ?_ ?_ | refine call_s (sK) ?_ ?_); (focus (simp only [go_sem, *]; done)); simp only [go_sem, *]) | (refine call_of [0] [] (sC) (by simp) ?_ ?_ (by simp) (.inl rfl) ?_ ?_ ?_; (focus (simp only [go_sem, *]; done)); (focus (simp only [go_sem, *]; done)); (focus (first | (simp; done) | (simp [go_sem]; done))); (focus (first | (simp; done) | (simp [go_sem]; done))); simp only [go_sem, *])) | ((with_reducible refine Qb ?_ ?_); focus kernel_rfl) | ((with_reducible refine And.intro ?_ ?_); focus omega) | (refine contA_of hK ?_; clear hK K'; simp only [go_sem, *]) | (simp only [thenA, inBlockA, go_sem, *]))
   all_goals first | contradiction | skip
   refine ⟨_, (by omega), [some 0, some 1, some 2], [], _, _, _, (by (simp only [Weak, go_sem, List.map_append, List.map_set, *] <;> (try simp (disch := omega) only [wrap_succ]) <;> (try simp) <;> (try omega))), i + 1, d3, x, rfl, (by omega), (by exact hG), rfl, rfl, rfl⟩
  ·rw [if_neg e] at sA
   have e2 : (errOf q c == 0) = false := by simpa using e
   have hG : GuP p q d3 := ⟨vq, hql, hdd2⟩
   generalize errOf q c = er at *
   repeat' (first | (with_reducible (show runOps ..); first | (refine Qr rfl ?_; try intro K' hK; try simp only [go_sem, *]) | (refine Qi rfl rfl rfl rfl (fun hb K' hK => ?_) (fun hb => ?_) <;> (have hc := hb; try simp only [go_sem] at hc; simp only [go_sem, *]))) | (with_reducible (show Hold ..); first | refine Qh rfl ?_ | refine s_draw rfl Tryz.mixed (by kernel_rfl) ?_ | (refine s_cond rfl ⟨_, rfl, fun hb => ?_, fun hb => ?_⟩ <;> (have hc := hb; try simp only [go_sem] at hc)) | refine s_ret rfl ?_) | (with_reducible (show callA ..); first | (refine call_of [0] [] (sC) (by simp) ?_ ?_ (by simp) (.inl rfl) ?_ ?_ ?_; (focus (simp only [go_sem, *]; done)); (focus (simp only [go_sem, *]; done)); (focus (first | (simp; done) | (simp [go_sem]; done))); (focus (first | (simp; done) | (simp [go_sem]; done))); simp only [go_sem, *]) | (refine call_s (sA) ?_ ?_; (focus (simp only [go_sem, *]; done)); simp only [go_sem, *])) | ((with_reducible refine Qb ?_ ?_); focus kernel_rfl) | ((with_reducible refine And.intro ?_ ?_); focus omega) | (refine contA_of hK ?_; clear hK K'; simp only [go_sem, *]) | (simp only [thenA, inBlockA, go_sem, *]))
   all_goals first | contradiction | skip
   refine ⟨_, (by omega), [some 0, some 1, some 2], [], _, _, _, (by (simp only [Weak, go_sem, List.map_append, List.map_set, *] <;> (try simp (disch := omega) only [wrap_succ]) <;> (try simp) <;> (try omega))), i + 1, d3, q, rfl, (by omega), (by exact hG), rfl, rfl, rfl⟩
 ·have hk2 : n - i = 0 := by omega
  rw [hk2]
  have sG := guess_sp v vq hql
  have sE := sp_EqPlans p q (by omega) (fun l hl => by have := (v.rows l hl).len; omega)
  obtain ⟨G, hG⟩ : ∃ G, G = guessOf p q := ⟨_, rfl⟩
  rw [← hG] at sG
  by_cases hpq : p = q
  ·rw [guessOf_same hpq] at hG
   rw [decide_eq_true hpq] at sE
   subst hG
   clear hpq
   repeat' (first | (with_reducible (show runOps ..); first | (refine Qr rfl ?_; try intro K' hK; try simp only [go_sem, *]) | (refine Qi rfl rfl rfl rfl (fun hb K' hK => ?_) (fun hb => ?_) <;> (have hc := hb; try simp only [go_sem] at hc; simp only [go_sem, *]))) | (with_reducible (show Hold ..); first | refine Qh rfl ?_ | refine s_draw rfl Tryz.mixed (by kernel_rfl) ?_ | (refine s_cond rfl ⟨_, rfl, fun hb => ?_, fun hb => ?_⟩ <;> (have hc := hb; try simp only [go_sem] at hc)) | refine s_ret rfl ?_) | (with_reducible (show callA ..); first | ((first | refine call_s (sG) ?_ ?_ | refine call_s (sE) ?_ ?_ | refine call_s (sw) ?_ ?_); (focus (simp only [go_sem, *]; done)); simp only [go_sem, *])) | ((with_reducible refine Qb ?_ ?_); focus kernel_rfl) | ((with_reducible refine And.intro ?_ ?_); focus omega) | (refine contA_of hK ?_; clear hK K'; simp only [go_sem, *]) | (simp only [thenA, inBlockA, go_sem, *]))
   all_goals first | contradiction | skip
   (refine ⟨[_], [], [], ⟨rfl, trivial⟩, ?_⟩; simp only [go_sem, *])
  ·rw [decide_eq_false hpq] at sE
   have hLc := fun c hc => changesOf_can (p := p) (c := c) hc
   have hLl := changesOf_len v
   have sR := sp_rChanges p v
   have hG1 := fun l h1 => guessOf_one (p := p) (q := q) (l := l) hpq h1
   have hG2 := guessOf_two (p := p) (q := q) hpq
   rw [← hG] at hG1 hG2
   have hN1 := guess1 p q
   have hN2 := guess2 p q
   clear hG hpq
   generalize guessN 1 p q = N1 at *
   generalize guessN 2 p q = N2 at *
   generalize changesOf p = L at *
   generalize hei : (if G.isSome = true then (0 : Int) else 11) = eG at *
   have hA0 : firstSome (g1 q p) (L.drop 0) = N1 := hN1.symm
   have hB0 : firstSome (g2 q p) (L.drop 0) = N2 := hN2.symm
   clear hN1 hN2
   repeat' (first | (with_reducible (show runOps ..); first | (refine Qr rfl ?_; try intro K' hK; try simp only [go_sem, *]) | (refine Qi rfl rfl rfl rfl (fun hb K' hK => ?_) (fun hb => ?_) <;> (have hc := hb; try simp only [go_sem] at hc; simp only [go_sem, *]))) | (with_reducible (show Hold ..); first | refine Qh rfl ?_ | refine s_draw rfl Tryz.mixed (by kernel_rfl) ?_ | (refine s_cond rfl ⟨_, rfl, fun hb => ?_, fun hb => ?_⟩ <;> (have hc := hb; try simp only [go_sem] at hc)) | refine s_ret rfl ?_) | (with_reducible (show callA ..); first | ((first | refine call_s (sG) ?_ ?_ | refine call_s (sE) ?_ ?_ | refine call_s (sR) ?_ ?_); (focus (simp only [go_sem, *]; done)); simp only [go_sem, *])) | ((with_reducible refine Qb ?_ ?_); focus kernel_rfl) | ((with_reducible refine And.intro ?_ ?_); focus omega) | (refine contA_of hK ?_; clear hK K'; simp only [go_sem, *]) | (simp only [thenA, inBlockA, go_sem, *]))
   all_goals first | contradiction | skip
   clear sG sE sR
   refine s_loop rfl (fun zn zN zenv zAs => ∃ (j : Nat), zn = (L.length) - j ∧ j ≤ (L.length) ∧ (firstSome (g1 q p) (L.drop j) = N1) ∧ zN = 200 ∧ zenv = [(12, iV j), (11, .list (L.map Change.enc)), (10, iV eG), (9, .list ((optL G).map Change.enc)), (5, .ptr 1 0), (4, .ptr 0 0)] ∧ zAs = [pBox p, pBox q]) (L.length) ⟨[some 1, some 2], [], _, _, _, (by (simp only [Weak, go_sem, List.map_append, List.map_set, *] <;> (try simp (disch := omega) only [wrap_succ]) <;> (try simp) <;> (try omega))), 0, (by simp), (by simp), (by exact hA0), rfl, rfl, rfl⟩ ?_; rintro _ _ _ _ ⟨j, rfl, hj, hQ, rfl, rfl, rfl⟩
   clear hA0
   by_cases hj : j < L.length
   ·have hcan := hLc _ (getD_mem hj)
    obtain ⟨e0, vx, hx⟩ := aft_ok v hcan
    have sA := sp_After p (L.getD j default) (by omega)
    rw [if_pos e0, e0] at sA
    have hx3 := vx.len
    have sW := sp_wide (afterOf p (L.getD j default)) (by omega) false (wide_valid vx)
    have sK := sp_Check (afterOf p (L.getD j default)) (by omega)
    rw [(check_zero _).2 vx] at sK
    have sE := sp_EqPlans (afterOf p (L.getD j default)) q (by omega) (fun l hl => by have := (vx.rows l hl).len; omega)
    by_cases q1 : afterOf p (L.getD j default) = q
    ·rw [decide_eq_true q1] at sE
     have hN := first_yes hj hQ (g1_yes q1)
     have hGe := hG1 _ hN
     have sQ := sp_EqChanges [L.getD j default] [L.getD j default] (by simp)
     rw [decide_eq_true rfl] at sQ
     simp only [List.map_cons, List.map_nil] at sQ
     subst hGe
     have hei : eG = 0 := by rw [← hei]; rfl
     subst hei
     clear hQ hG1 hG2 hB0 hN hcan e0 q1
     generalize afterOf p (L.getD j default) = x at *
     have hw : IntKind.i64.wrap ((j : Int) + 1) = ((j + 1 : Nat) : Int) := by rw [wrap_i64 (by omega) (by omega)]; omega
     have hsl : List.take (j + 1 - j) (List.drop j (List.map Change.enc L)) = [Change.enc (L.getD j default)] := by
      rw [← List.map_drop, drop_cons hj, show j + 1 - j = 1 by omega]; rfl
     have hjl : j + 1 ≤ L.length := by omega
     repeat' (first | (with_reducible (show runOps ..); first | (refine Qr rfl ?_; try intro K' hK; try simp only [go_sem, *]) | (refine Qi rfl rfl rfl rfl (fun hb K' hK => ?_) (fun hb => ?_) <;> (have hc := hb; try simp only [go_sem] at hc; simp only [go_sem, *]))) | (with_reducible (show Hold ..); first | refine Qh rfl ?_ | refine s_draw rfl Tryz.mixed (by kernel_rfl) ?_ | (refine s_cond rfl ⟨_, rfl, fun hb => ?_, fun hb => ?_⟩ <;> (have hc := hb; try simp only [go_sem] at hc)) | refine s_ret rfl ?_) | (with_reducible (show (∀ _ : AV, _ → _) ∧ _); refine And.intro ?_ ?_; (focus (intro y hy; first | (obtain ⟨z, _, rfl⟩ := List.mem_map.1 (hy); simp [go_sem]; done) | (obtain ⟨z, _, rfl⟩ := List.mem_map.1 (List.mem_of_mem_take hy); simp [go_sem]; done) | (obtain ⟨z, _, rfl⟩ := List.mem_map.1 (List.mem_of_mem_drop hy); simp [go_sem]; done) | (obtain ⟨z, _, rfl⟩ := List.mem_map.1 (List.mem_of_mem_drop (List.mem_of_mem_take hy)); simp [go_sem]; done)))) | (with_reducible (show callA ..); first | ((first | refine call_s (sA) ?_ ?_ | refine call_s (sW) ?_ ?_ | refine call_s (sK) ?_ ?_ | refine call_s (sE) ?_ ?_ | refine call_s (sQ) ?_ ?_ | refine call_s (sw) ?_ ?_); (focus (simp only [go_sem, *]; done)); simp only [go_sem, *])) | ((with_reducible refine Qb ?_ ?_); focus kernel_rfl) | ((with_reducible refine And.intro ?_ ?_); focus omega) | (refine contA_of hK ?_; clear hK K'; simp only [go_sem, *]) | (simp only [thenA, inBlockA, go_sem, *]))
     all_goals first | contradiction | skip
     (refine ⟨[_], [], [], ⟨rfl, trivial⟩, ?_⟩; simp only [go_sem, *])
    ·rw [decide_eq_false q1] at sE
     have hQ2 := first_no hj hQ (g1_no q1)
     clear hQ hG1 hG2 hB0 hcan e0 q1 hLc
     generalize afterOf p (L.getD j default) = x at *
     repeat' (first | (with_reducible (show runOps ..); first | (refine Qr rfl ?_; try intro K' hK; try simp only [go_sem, *]) | (refine Qi rfl rfl rfl rfl (fun hb K' hK => ?_) (fun hb => ?_) <;> (have hc := hb; try simp only [go_sem] at hc; simp only [go_sem, *]))) | (with_reducible (show Hold ..); first | refine Qh rfl ?_ | refine s_draw rfl Tryz.mixed (by kernel_rfl) ?_ | (refine s_cond rfl ⟨_, rfl, fun hb => ?_, fun hb => ?_⟩ <;> (have hc := hb; try simp only [go_sem] at hc)) | refine s_ret rfl ?_) | (with_reducible (show callA ..); first | ((first | refine call_s (sA) ?_ ?_ | refine call_s (sW) ?_ ?_ | refine call_s (sK) ?_ ?_ | refine call_s (sE) ?_ ?_); (focus (simp only [go_sem, *]; done)); simp only [go_sem, *])) | ((with_reducible refine Qb ?_ ?_); focus kernel_rfl) | ((with_reducible refine And.intro ?_ ?_); focus omega) | (refine contA_of hK ?_; clear hK K'; simp only [go_sem, *]) | (simp only [thenA, inBlockA, go_sem, *]))
     all_goals first | contradiction | skip
     refine ⟨_, (by omega), [some 0, some 1], [], _, _, _, (by (simp only [Weak, go_sem, List.map_append, List.map_set, *] <;> (try simp (disch := omega) only [wrap_succ]) <;> (try simp) <;> (try omega))), j + 1, rfl, (by omega), (by exact hQ2), rfl, rfl, rfl⟩
   ·have hj3 : ¬ (j : Int) < L.length := by omega
    have hN := first_end (by omega) hQ
    have hGe := hG2 hN
    clear hQ hG1 hG2
    subst hGe
    repeat' (first | (with_reducible (show runOps ..); first | (refine Qr rfl ?_; try intro K' hK; try simp only [go_sem, *]) | (refine Qi rfl rfl rfl rfl (fun hb K' hK => ?_) (fun hb => ?_) <;> (have hc := hb; try simp only [go_sem] at hc; simp only [go_sem, *]))) | (with_reducible (show Hold ..); first | refine Qh rfl ?_ | refine s_draw rfl Tryz.mixed (by kernel_rfl) ?_ | (refine s_cond rfl ⟨_, rfl, fun hb => ?_, fun hb => ?_⟩ <;> (have hc := hb; try simp only [go_sem] at hc)) | refine s_ret rfl ?_) | ((with_reducible refine Qb ?_ ?_); focus kernel_rfl) | ((with_reducible refine And.intro ?_ ?_); focus omega) | (refine contA_of hK ?_; clear hK K'; simp only [go_sem, *]) | (simp only [thenA, inBlockA, go_sem, *]))
    all_goals first | contradiction | skip
    refine s_loop rfl (fun zn zN zenv zAs => ∃ (j2 : Nat), zn = (L.length) - j2 ∧ j2 ≤ (L.length) ∧ (firstSome (g2 q p) (L.drop j2) = G) ∧ zN = 200 ∧ zenv = [(15, iV j2), (11, .list (L.map Change.enc)), (10, iV eG), (9, .list ((optL G).map Change.enc)), (5, .ptr 1 0), (4, .ptr 0 0)] ∧ zAs = [pBox p, pBox q]) (L.length) ⟨[some 0, some 1], [], _, _, _, (by (simp only [Weak, go_sem, List.map_append, List.map_set, *] <;> (try simp (disch := omega) only [wrap_succ]) <;> (try simp) <;> (try omega))), 0, (by simp), (by simp), (by exact hB0), rfl, rfl, rfl⟩ ?_; rintro _ _ _ _ ⟨j2, rfl, hj2, hQ, rfl, rfl, rfl⟩
    clear hB0
    by_cases hj : j2 < L.length
    ·have hj3 : (j2 : Int) < L.length := by omega
     have hcan := hLc _ (getD_mem hj)
     obtain ⟨e0, vx, hx⟩ := aft_ok v hcan
     have sA := sp_After p (L.getD j2 default) (by omega)
     rw [if_pos e0, e0] at sA
     have hx3 := vx.len
     have sW := sp_wide (afterOf p (L.getD j2 default)) (by omega) false (wide_valid vx)
     have sK := sp_Check (afterOf p (L.getD j2 default)) (by omega)
     rw [(check_zero _).2 vx] at sK
     have sR := sp_rChanges _ vx
     have hMc := fun c hc => changesOf_can (p := afterOf p (L.getD j2 default)) (c := c) hc
     have hMl := changesOf_len vx
     have hgS := fun l h => first_yes hj hQ (g2_some (l := l) h)
     have hgN := fun h => first_no hj hQ (g2_none h)
     rw [guess1] at hgS hgN
     clear hQ hcan e0 hLc
     generalize afterOf p (L.getD j2 default) = x at *
     generalize changesOf x = M at *
     generalize hNm : firstSome (g1 q x) M = NM at *
     have hC0 : firstSome (g1 q x) (M.drop 0) = NM := hNm
     clear hNm
     repeat' (first | (with_reducible (show runOps ..); first | (refine Qr rfl ?_; try intro K' hK; try simp only [go_sem, *]) | (refine Qi rfl rfl rfl rfl (fun hb K' hK => ?_) (fun hb => ?_) <;> (have hc := hb; try simp only [go_sem] at hc; simp only [go_sem, *]))) | (with_reducible (show Hold ..); first | refine Qh rfl ?_ | refine s_draw rfl Tryz.mixed (by kernel_rfl) ?_ | (refine s_cond rfl ⟨_, rfl, fun hb => ?_, fun hb => ?_⟩ <;> (have hc := hb; try simp only [go_sem] at hc)) | refine s_ret rfl ?_) | (with_reducible (show callA ..); first | ((first | refine call_s (sA) ?_ ?_ | refine call_s (sW) ?_ ?_ | refine call_s (sK) ?_ ?_ | refine call_s (sR) ?_ ?_); (focus (simp only [go_sem, *]; done)); simp only [go_sem, *])) | ((with_reducible refine Qb ?_ ?_); focus kernel_rfl) | ((with_reducible refine And.intro ?_ ?_); focus omega) | (refine contA_of hK ?_; clear hK K'; simp only [go_sem, *]) | (simp only [thenA, inBlockA, go_sem, *]))
     all_goals first | contradiction | skip
     clear sA sW sK sR
     refine s_loop rfl (fun zn zN zenv zAs => ∃ (k : Nat), zn = (M.length) - k ∧ k ≤ (M.length) ∧ (firstSome (g1 q x) (M.drop k) = NM) ∧ zN = 200 ∧ zenv = [(19, iV k), (18, .list (M.map Change.enc)), (16, .ptr 2 0), (15, iV j2), (11, .list (L.map Change.enc)), (10, iV eG), (9, .list ((optL G).map Change.enc)), (5, .ptr 1 0), (4, .ptr 0 0)] ∧ zAs = [pBox p, pBox q, pBox x]) (M.length) ⟨[some 0, some 1, some 2], [], _, _, _, (by (simp only [Weak, go_sem, List.map_append, List.map_set, *] <;> (try simp (disch := omega) only [wrap_succ]) <;> (try simp) <;> (try omega))), 0, (by simp), (by simp), (by exact hC0), rfl, rfl, rfl⟩ ?_; rintro _ _ _ _ ⟨k, rfl, hk, hK2, rfl, rfl, rfl⟩
     clear hC0
     by_cases hk : k < M.length
     ·have hk3 : (k : Int) < M.length := by omega
      have hcan := hMc _ (getD_mem hk)
      obtain ⟨e0, vy, hy⟩ := aft_ok vx hcan
      have sA := sp_After x (M.getD k default) (by omega)
      rw [if_pos e0, e0] at sA
      have hy3 := vy.len
      have sE := sp_EqPlans (afterOf x (M.getD k default)) q (by omega) (fun l hl => by have := (vy.rows l hl).len; omega)
      by_cases q1 : afterOf x (M.getD k default) = q
      ·rw [decide_eq_true q1] at sE
       have hGe := hgS _ (first_yes hk hK2 (g1_yes q1))
       have sQ := sp_EqChanges [L.getD j2 default, M.getD k default] [L.getD j2 default, M.getD k default] (by simp)
       rw [decide_eq_true rfl] at sQ
       simp only [List.map_cons, List.map_nil] at sQ
       subst hGe
       have hei : eG = 0 := by rw [← hei]; rfl
       subst hei
       clear hgS hgN hK2 hMc hcan e0 q1
       generalize afterOf x (M.getD k default) = y at *
       repeat' (first | (with_reducible (show runOps ..); first | (refine Qr rfl ?_; try intro K' hK; try simp only [go_sem, *]) | (refine Qi rfl rfl rfl rfl (fun hb K' hK => ?_) (fun hb => ?_) <;> (have hc := hb; try simp only [go_sem] at hc; simp only [go_sem, *]))) | (with_reducible (show Hold ..); first | refine Qh rfl ?_ | refine s_draw rfl Tryz.mixed (by kernel_rfl) ?_ | (refine s_cond rfl ⟨_, rfl, fun hb => ?_, fun hb => ?_⟩ <;> (have hc := hb; try simp only [go_sem] at hc)) | refine s_ret rfl ?_) | (with_reducible (show callA ..); first | ((first | refine call_s (sA) ?_ ?_ | refine call_s (sE) ?_ ?_ | refine call_s (sw) ?_ ?_); (focus (simp only [go_sem, *]; done)); simp only [go_sem, *]) | (refine call_fz (sQ) ?_ rfl ?_ ?_ ?_ ?_; (focus (simp only [go_sem, *]; done)); (focus (simp only [go_sem, *]; done)); (focus (first | (simp; done) | (simp [go_sem]; done))); (focus (first | (simp; done) | (simp [go_sem]; done))); simp only [go_sem, deads, *])) | ((with_reducible refine Qb ?_ ?_); focus kernel_rfl) | ((with_reducible refine And.intro ?_ ?_); focus omega) | (refine contA_of hK ?_; clear hK K'; simp only [go_sem, *]) | (simp only [thenA, inBlockA, go_sem, *]))
       all_goals first | contradiction | skip
       (refine ⟨[_], [], [], ⟨rfl, trivial⟩, ?_⟩; simp only [go_sem, *])
      ·rw [decide_eq_false q1] at sE
       have hK3 := first_no hk hK2 (g1_no q1)
       clear hK2 hgS hgN hMc hcan e0 q1
       generalize afterOf x (M.getD k default) = y at *
       repeat' (first | (with_reducible (show runOps ..); first | (refine Qr rfl ?_; try intro K' hK; try simp only [go_sem, *]) | (refine Qi rfl rfl rfl rfl (fun hb K' hK => ?_) (fun hb => ?_) <;> (have hc := hb; try simp only [go_sem] at hc; simp only [go_sem, *]))) | (with_reducible (show Hold ..); first | refine Qh rfl ?_ | refine s_draw rfl Tryz.mixed (by kernel_rfl) ?_ | (refine s_cond rfl ⟨_, rfl, fun hb => ?_, fun hb => ?_⟩ <;> (have hc := hb; try simp only [go_sem] at hc)) | refine s_ret rfl ?_) | (with_reducible (show callA ..); first | ((first | refine call_s (sA) ?_ ?_ | refine call_s (sE) ?_ ?_); (focus (simp only [go_sem, *]; done)); simp only [go_sem, *])) | ((with_reducible refine Qb ?_ ?_); focus kernel_rfl) | ((with_reducible refine And.intro ?_ ?_); focus omega) | (refine contA_of hK ?_; clear hK K'; simp only [go_sem, *]) | (simp only [thenA, inBlockA, go_sem, *]))
       all_goals first | contradiction | skip
       refine ⟨_, (by omega), [some 0, some 1, some 2], [], _, _, _, (by (simp only [Weak, go_sem, List.map_append, List.map_set, *] <;> (try simp (disch := omega) only [wrap_succ]) <;> (try simp) <;> (try omega))), k + 1, rfl, (by omega), (by exact hK3), rfl, rfl, rfl⟩
     ·have hk3 : ¬ (k : Int) < M.length := by omega
      have hQ2 := hgN (first_end (by omega) hK2)
      clear hK2 hgS hgN hMc
      repeat' (first | (with_reducible (show runOps ..); first | (refine Qr rfl ?_; try intro K' hK; try simp only [go_sem, *]) | (refine Qi rfl rfl rfl rfl (fun hb K' hK => ?_) (fun hb => ?_) <;> (have hc := hb; try simp only [go_sem] at hc; simp only [go_sem, *]))) | (with_reducible (show Hold ..); first | refine Qh rfl ?_ | refine s_draw rfl Tryz.mixed (by kernel_rfl) ?_ | (refine s_cond rfl ⟨_, rfl, fun hb => ?_, fun hb => ?_⟩ <;> (have hc := hb; try simp only [go_sem] at hc)) | refine s_ret rfl ?_) | ((with_reducible refine Qb ?_ ?_); focus kernel_rfl) | ((with_reducible refine And.intro ?_ ?_); focus omega) | (refine contA_of hK ?_; clear hK K'; simp only [go_sem, *]) | (simp only [thenA, inBlockA, go_sem, *]))
      all_goals first | contradiction | skip
      refine ⟨_, (by omega), [some 0, some 1], [], _, _, _, (by (simp only [Weak, go_sem, List.map_append, List.map_set, *] <;> (try simp (disch := omega) only [wrap_succ]) <;> (try simp) <;> (try omega))), j2 + 1, rfl, (by omega), (by exact hQ2), rfl, rfl, rfl⟩
    ·have hj3 : ¬ (j2 : Int) < L.length := by omega
     have hGe := first_end (by omega) hQ
     clear hQ hLc
     subst hGe
     have hei : eG = 11 := by rw [← hei]; rfl
     subst hei
     repeat' (first | (with_reducible (show runOps ..); first | (refine Qr rfl ?_; try intro K' hK; try simp only [go_sem, *]) | (refine Qi rfl rfl rfl rfl (fun hb K' hK => ?_) (fun hb => ?_) <;> (have hc := hb; try simp only [go_sem] at hc; simp only [go_sem, *]))) | (with_reducible (show Hold ..); first | refine Qh rfl ?_ | refine s_draw rfl Tryz.mixed (by kernel_rfl) ?_ | (refine s_cond rfl ⟨_, rfl, fun hb => ?_, fun hb => ?_⟩ <;> (have hc := hb; try simp only [go_sem] at hc)) | refine s_ret rfl ?_) | (with_reducible (show callA ..); first | (refine call_s (sw) ?_ ?_; (focus (simp only [go_sem, *]; done)); simp only [go_sem, *])) | ((with_reducible refine Qb ?_ ?_); focus kernel_rfl) | ((with_reducible refine And.intro ?_ ?_); focus omega) | (refine contA_of hK ?_; clear hK K'; simp only [go_sem, *]) | (simp only [thenA, inBlockA, go_sem, *]))
     all_goals first | contradiction | skip
     (refine ⟨[_], [], [], ⟨rfl, trivial⟩, ?_⟩; simp only [go_sem, *])
end Go.Abs

