/-
  WHAT THE PROOF STANDS ON, PART 5: contracts of the program's functions and the logic that they are proved in. No condition.
-/
import Derived.Test.YtmhleaopjcfjnaaGreatQ4
set_option linter.unusedVariables false
set_option linter.unusedSimpArgs false
set_option linter.unusedSectionVars false
namespace Go.Abs
open Go Go.Proofs
set_option maxRecDepth 10000
set_option maxHeartbeats 4000000
attribute [go_sem] diceBox Nat.le_refl Nat.sub_zero Int.reduceGT Nat.reduceGT Int.reduceGE
@[go_sem ↓] theorem intA_xor (a b : Int) (K : Cont) : intA .xor .u64 a b K = K (uV (xor64 a b)) [] [] := rfl
@[go_sem ↓] theorem shiftA_shl (a b : Int) (K : Cont) : shiftA .shl .u64 a b K = (0 ≤ b ∧ K (uV (shl64 a b.toNat)) [] []) := rfl
@[go_sem ↓] theorem shiftA_shr (a b : Int) (K : Cont) : shiftA .shr .u64 a b K = (0 ≤ b ∧ K (uV (shr64 a b.toNat)) [] []) := rfl
@[go_sem] theorem fold_mix1 (s : Int) : xor64 s (shl64 s 13) = mix1 s := rfl
@[go_sem] theorem fold_mix2 (s : Int) : xor64 s (shr64 s 7) = mix2 s := rfl
@[go_sem] theorem fold_mix3 (s : Int) : xor64 s (shl64 s 17) = mix3 s := rfl
@[go_sem] theorem fold_mixed (s : Int) : mix3 (mix2 (mix1 s)) = mixed3 s := rfl
@[go_sem] theorem fold_rawM (n : Int) : IntKind.u64.wrap (xor64 n (shr64 n 30) * 10723151780598845931) = rawM n := rfl
theorem sp_raw (d : Dice) (h : d.list.length ≤ 4294967296) : Spec Tryz.prog 95 [.ptr 0 0] [diceBox d] (uV (rawN d)) [diceBox (rawD d)] := by
 have e2 : (rawD d).list = d.list := rfl
 have e4 : (rawD d).seed = rawS d := rfl
 have e6 : rawN d = xor64 (rawM (rawS d)) (shr64 (rawM (rawS d)) 31) := rfl
 by_cases q : d.at_ < d.list.length
 ·have q2 : ((d.at_ : Int) < (d.list.length : Int)) := by omega
  have e1 : rawS d = IntKind.u64.wrap (mixed3 d.seed + IntKind.u64.wrap (IntKind.u64.wrap (d.list.getD d.at_ default) * 13787848793156543929)) := by unfold rawS; rw [if_pos q]
  have e3 : (rawD d).at_ = d.at_ + 1 := by unfold rawD; simp only; rw [if_pos q]
  have e5 : IntKind.i64.wrap ((d.at_ : Int) + 1) = ((d.at_ + 1 : Nat) : Int) := wrap_succ (by omega)
  generalize rawD d = d' at *
  refine spec_body Tryz.func95 rfl (fun E hE => ?_); simp only [go_sem, Tryz.ntmps95]
  repeat' (first | (with_reducible (show runOps ..); first | (refine Qr rfl ?_; try intro K' hK; try simp only [go_sem, *])) | (with_reducible (show Hold ..); first | refine Qh rfl ?_ | refine s_draw rfl Tryz.mixed (by kernel_rfl) ?_ | (refine s_cond rfl ⟨_, rfl, fun hb => ?_, fun hb => ?_⟩ <;> (have hc := hb; try simp only [go_sem] at hc)) | refine s_ret rfl ?_) | ((with_reducible refine Qb ?_ ?_); focus kernel_rfl) | ((with_reducible refine And.intro ?_ ?_); focus omega) | (refine contA_of hK ?_; clear hK K'; simp only [go_sem, *]) | (simp only [thenA, inBlockA, go_sem, *]))
  all_goals first | contradiction | omega | skip
  refine ⟨[_], [some 0], [], ⟨rfl, trivial⟩, ?_⟩
  simp only [go_sem, *]
 ·have q2 : ¬ ((d.at_ : Int) < (d.list.length : Int)) := by omega
  have e1 : rawS d = mixed3 d.seed := by unfold rawS; rw [if_neg q]
  have e3 : (rawD d).at_ = d.at_ := by unfold rawD; simp only; rw [if_neg q]
  generalize rawD d = d' at *
  refine spec_body Tryz.func95 rfl (fun E hE => ?_); simp only [go_sem, Tryz.ntmps95]
  repeat' (first | (with_reducible (show runOps ..); first | (refine Qr rfl ?_; try intro K' hK; try simp only [go_sem, *])) | (with_reducible (show Hold ..); first | refine Qh rfl ?_ | refine s_draw rfl Tryz.mixed (by kernel_rfl) ?_ | (refine s_cond rfl ⟨_, rfl, fun hb => ?_, fun hb => ?_⟩ <;> (have hc := hb; try simp only [go_sem] at hc)) | refine s_ret rfl ?_) | ((with_reducible refine Qb ?_ ?_); focus kernel_rfl) | ((with_reducible refine And.intro ?_ ?_); focus omega) | (refine contA_of hK ?_; clear hK K'; simp only [go_sem, *]) | (simp only [thenA, inBlockA, go_sem, *]))
  all_goals first | contradiction | omega | skip
  refine ⟨[_], [some 0], [], ⟨rfl, trivial⟩, ?_⟩
  simp only [go_sem, *]
theorem toD_list (n : Int) (d : Dice) : (toD n d).list = d.list := by unfold toD; split <;> rfl
theorem sp_To (d : Dice) (n : Int) (h : d.list.length ≤ 4294967296) (hn : n ≤ 4294967296) : Spec Tryz.prog 30 [.ptr 0 0, iV n] [diceBox d] (iV (toN n d)) [diceBox (toD n d)] := by
 by_cases q : n < 1
 ·have e1 : toN n d = 0 := by unfold toN; rw [if_pos q]
  have e2 : toD n d = d := by unfold toD; rw [if_pos q]
  refine spec_body Tryz.func30 rfl (fun E hE => ?_); simp only [go_sem, Tryz.ntmps30]
  repeat' (first | (with_reducible (show runOps ..); first | (refine Qr rfl ?_; try intro K' hK; try simp only [go_sem, *])) | (with_reducible (show Hold ..); first | refine Qh rfl ?_ | (refine s_cond rfl ⟨_, rfl, fun hb => ?_, fun hb => ?_⟩ <;> (have hc := hb; try simp only [go_sem] at hc)) | refine s_ret rfl ?_) | ((with_reducible refine Qb ?_ ?_); focus kernel_rfl) | ((with_reducible refine And.intro ?_ ?_); focus omega) | (refine contA_of hK ?_; clear hK K'; simp only [go_sem, *]) | (simp only [thenA, inBlockA, go_sem, *]))
  all_goals first | contradiction | omega | skip
  refine ⟨[_], [some 0], [], ⟨rfl, trivial⟩, ?_⟩
  simp only [go_sem, *]
 ·have e1 : toN n d = (shr64 (rawN d) 16).tmod (n + 1) := by unfold toN; rw [if_neg q]
  have e2 : toD n d = rawD d := by unfold toD; rw [if_neg q]
  have hr := toN_range n d
  rw [e1] at hr
  have e3 : IntKind.i64.wrap (n + 1) = n + 1 := wrap_i64 (by omega) (by omega)
  have e4 : IntKind.u64.wrap (n + 1) = n + 1 := by rw [IntKind.wrap_u64]; omega
  have e5 : IntKind.i64.wrap ((shr64 (rawN d) 16).tmod (n + 1)) = (shr64 (rawN d) 16).tmod (n + 1) := wrap_i64 (by omega) (by omega)
  have e6 : ¬ n + 1 = 0 := by omega
  have sr := sp_raw d h
  generalize rawN d = r at *
  generalize rawD d = d' at *
  clear hr
  refine spec_body Tryz.func30 rfl (fun E hE => ?_); simp only [go_sem, Tryz.ntmps30]
  repeat' (first | (with_reducible (show runOps ..); first | (refine Qr rfl ?_; try intro K' hK; try simp only [go_sem, *])) | (with_reducible (show Hold ..); first | refine Qh rfl ?_ | (refine s_cond rfl ⟨_, rfl, fun hb => ?_, fun hb => ?_⟩ <;> (have hc := hb; try simp only [go_sem] at hc)) | refine s_ret rfl ?_) | (with_reducible (show callA ..); first | (refine call_of [0] [] (sr) (by simp) ?_ ?_ (by simp) (.inl rfl) ?_ ?_ ?_; (focus (simp only [go_sem, *]; done)); (focus (simp only [go_sem, *]; done)); (focus (first | (simp; done) | (simp [go_sem]; done))); (focus (first | (simp; done) | (simp [go_sem]; done))); simp only [go_sem, *])) | ((with_reducible refine Qb ?_ ?_); focus kernel_rfl) | ((with_reducible refine And.intro ?_ ?_); focus omega) | (refine contA_of hK ?_; clear hK K'; simp only [go_sem, *]) | (simp only [thenA, inBlockA, go_sem, *]))
  all_goals first | contradiction | omega | skip
  refine ⟨[_], [some 0], [], ⟨rfl, trivial⟩, ?_⟩
  simp only [go_sem, *]
theorem sp_From (d : Dice) (lo hi : Int) (h : d.list.length ≤ 4294967296) (hl : 0 ≤ lo ∧ lo ≤ hi) (hh : hi ≤ 4294967296) : Spec Tryz.prog 83 [.ptr 0 0, iV lo, iV hi] [diceBox d] (iV (fromN lo hi d)) [diceBox (fromD lo hi d)] := by
 have st := sp_To d (hi - lo) h (by omega)
 have hf := fromN_le hl.2 d
 have e1 : IntKind.i64.wrap (hi - lo) = hi - lo := wrap_i64 (by omega) (by omega)
 have e2 : IntKind.i64.wrap (lo + toN (hi - lo) d) = fromN lo hi d := by
  have : lo + toN (hi - lo) d = fromN lo hi d := rfl
  rw [this]; exact wrap_i64 (by omega) (by omega)
 have e3 : fromD lo hi d = toD (hi - lo) d := rfl
 rw [e3]
 generalize fromN lo hi d = r at *
 clear e3 hf hl
 refine spec_body Tryz.func83 rfl (fun E hE => ?_); simp only [go_sem, Tryz.ntmps83]
 repeat' (first | (with_reducible (show runOps ..); first | (refine Qr rfl ?_; try intro K' hK; try simp only [go_sem, *])) | (with_reducible (show Hold ..); first | refine Qh rfl ?_ | (refine s_cond rfl ⟨_, rfl, fun hb => ?_, fun hb => ?_⟩ <;> (have hc := hb; try simp only [go_sem] at hc)) | refine s_ret rfl ?_) | (with_reducible (show callA ..); first | (refine call_of [0] [] (st) (by simp) ?_ ?_ (by simp) (.inl rfl) ?_ ?_ ?_; (focus (simp only [go_sem, *]; done)); (focus (simp only [go_sem, *]; done)); (focus (first | (simp; done) | (simp [go_sem]; done))); (focus (first | (simp; done) | (simp [go_sem]; done))); simp only [go_sem, *])) | ((with_reducible refine Qb ?_ ?_); focus kernel_rfl) | ((with_reducible refine And.intro ?_ ?_); focus omega) | (refine contA_of hK ?_; clear hK K'; simp only [go_sem, *]) | (simp only [thenA, inBlockA, go_sem, *]))
 refine ⟨[_], [some 0], [], ⟨rfl, trivial⟩, ?_⟩
 simp only [go_sem, *]
theorem sp_Once (d : Dice) (k : Int) (h : d.list.length ≤ 4294967296) (hk : 0 ≤ k ∧ k ≤ 4294967296) : Spec Tryz.prog 84 [.ptr 0 0, iV k] [diceBox d] (bV (onceT k d)) [diceBox (onceR k d)] := by
 have st := sp_To d (k - 1) h (by omega)
 have e1 : IntKind.i64.wrap (k - 1) = k - 1 := wrap_i64 (by omega) (by omega)
 have e2 : onceT k d = (toN (k - 1) d == 0) := rfl
 have e3 : onceR k d = toD (k - 1) d := rfl
 rw [e3, e2]
 clear e2 e3 hk
 refine spec_body Tryz.func84 rfl (fun E hE => ?_); simp only [go_sem, Tryz.ntmps84]
 repeat' (first | (with_reducible (show runOps ..); first | (refine Qr rfl ?_; try intro K' hK; try simp only [go_sem, *])) | (with_reducible (show Hold ..); first | refine Qh rfl ?_ | (refine s_cond rfl ⟨_, rfl, fun hb => ?_, fun hb => ?_⟩ <;> (have hc := hb; try simp only [go_sem] at hc)) | refine s_ret rfl ?_) | (with_reducible (show callA ..); first | (refine call_of [0] [] (st) (by simp) ?_ ?_ (by simp) (.inl rfl) ?_ ?_ ?_; (focus (simp only [go_sem, *]; done)); (focus (simp only [go_sem, *]; done)); (focus (first | (simp; done) | (simp [go_sem]; done))); (focus (first | (simp; done) | (simp [go_sem]; done))); simp only [go_sem, *])) | ((with_reducible refine Qb ?_ ?_); focus kernel_rfl) | ((with_reducible refine And.intro ?_ ?_); focus omega) | (refine contA_of hK ?_; clear hK K'; simp only [go_sem, *]) | (simp only [thenA, inBlockA, go_sem, *]))
 refine ⟨[_], [some 0], [], ⟨rfl, trivial⟩, ?_⟩
 simp only [go_sem, *]
def newDice (l : List Int) : Dice := ⟨l, 0, 11400714819323198485⟩
theorem sp_NewDice (l : List Int) : Spec Tryz.prog 21 [encInts l] [] (.ptr 0 0) [diceBox (newDice l)] := by
 refine spec_body Tryz.func21 rfl (fun E hE => ?_); simp only [go_sem, Tryz.ntmps21]
 repeat' (first | (with_reducible (show runOps ..); first | (refine Qr rfl ?_; try intro K' hK; try simp only [go_sem, *])) | (with_reducible (show Hold ..); first | refine Qh rfl ?_ | (refine s_cond rfl ⟨_, rfl, fun hb => ?_, fun hb => ?_⟩ <;> (have hc := hb; try simp only [go_sem] at hc)) | refine s_ret rfl ?_) | ((with_reducible refine Qb ?_ ?_); focus kernel_rfl) | ((with_reducible refine And.intro ?_ ?_); focus omega) | (refine contA_of hK ?_; clear hK K'; simp only [go_sem, *]) | (simp only [thenA, inBlockA, go_sem, *]))
 refine ⟨[_], [some 0], [], ⟨rfl, trivial⟩, ?_⟩
 simp only [go_sem, newDice, *]
end Go.Abs

namespace Go.Abs
open Go Go.Proofs
set_option maxRecDepth 10000
set_option maxHeartbeats 4000000
theorem fromD_list (a b : Int) (d : Dice) : (fromD a b d).list = d.list := toD_list _ _
theorem onceR_list (k : Int) (d : Dice) : (onceR k d).list = d.list := toD_list _ _
theorem plateN_list (d : Dice) : (plateN d).2.list = d.list := by
 unfold plateN plateK
 split
 ·simp only [fromD_list, onceR_list]
 ·simp only [fromD_list, onceR_list]
theorem platesN_list : ∀ (n : Nat) (d : Dice) (out : List Plate), (platesN n d out).2.list = d.list
 | 0, d, out => rfl
 | n + 1, d, out => by rw [platesN, platesN_list n]; exact plateN_list d
theorem platesOf_list (d : Dice) (m : Int) : (platesOf d m).2.list = d.list := by unfold platesOf; rw [platesN_list, toD_list]
def PlP (most : Int) (d : Dice) (k : Nat) (dd : Dice) (acc : List Plate) (R : List Plate × Dice) : Prop := platesN k dd acc = R ∧ dd.list.length ≤ 4294967296 ∧ acc.length + k ≤ 8
theorem PlP.next {most : Int} {d dd : Dice} {k : Nat} {acc : List Plate} {R : List Plate × Dice} (h : PlP most d (k + 1) dd acc R) : PlP most d k (plateN dd).2 (insPl (plateN dd).1 acc) R := by
 obtain ⟨h1, h2, h3⟩ := h
 have := insPl_len (x := (plateN dd).1) (l := acc)
 exact ⟨h1, by rw [plateN_list]; exact h2, by omega⟩
def AtP (x : Plate) (acc : List Plate) (j : Nat) : Prop := ∀ m, m < j → (acc.getD m default).lt x = true
theorem AtP.next {x : Plate} {acc : List Plate} {j : Nat} (h : AtP x acc j) (hx : (acc.getD j default).lt x = true) : AtP x acc (j + 1) := fun m hm => by
 rcases Nat.lt_succ_iff_lt_or_eq.1 hm with h1 | rfl
 ·exact h m h1
 ·exact hx
theorem sp_PlatesOf (d : Dice) (most : Int) (h : d.list.length ≤ 4294967296) (hm : most ≤ 8) :
  Spec Tryz.prog 85 [.ptr 0 0, iV most] [diceBox d] (.list ((platesOf d most).1.map Plate.enc)) [diceBox (platesOf d most).2] := by
 have st := sp_To d most h (by omega)
 have hr := toN_range most d
 obtain ⟨n, hn⟩ : ∃ n : Nat, toN most d = n := ⟨(toN most d).toNat, by omega⟩
 have h0 : PlP most d (n - 0) (toD most d) [] (platesOf d most) := by
  unfold platesOf
  rw [hn]
  exact ⟨by simp, by rw [toD_list]; exact h, by simp; omega⟩
 rw [hn] at st hr
 generalize platesOf d most = R at *
 obtain ⟨RL, RD⟩ := R
 clear hn
 generalize toD most d = d0 at *
 refine spec_body Tryz.func85 rfl (fun E hE => ?_); simp only [go_sem, Tryz.ntmps85]
 repeat' (first | (with_reducible (show runOps ..); first | (refine Qr rfl ?_; try intro K' hK; try simp only [go_sem, *]) | (refine Qi rfl rfl rfl rfl (fun hb K' hK => ?_) (fun hb => ?_) <;> (have hc := hb; try simp only [go_sem] at hc; simp only [go_sem, *]))) | (with_reducible (show Hold ..); first | refine Qh rfl ?_ | refine s_draw rfl Tryz.mixed (by kernel_rfl) ?_ | (refine s_cond rfl ⟨_, rfl, fun hb => ?_, fun hb => ?_⟩ <;> (have hc := hb; try simp only [go_sem] at hc)) | refine s_ret rfl ?_) | (with_reducible (show callA ..); first | (refine call_of [0] [] (st) (by simp) ?_ ?_ (by simp) (.inl rfl) ?_ ?_ ?_; (focus (simp only [go_sem, *]; done)); (focus (simp only [go_sem, *]; done)); (focus (first | (simp; done) | (simp [go_sem]; done))); (focus (first | (simp; done) | (simp [go_sem]; done))); simp only [go_sem, *])) | ((with_reducible refine Qb ?_ ?_); focus kernel_rfl) | ((with_reducible refine And.intro ?_ ?_); focus omega) | (refine contA_of hK ?_; clear hK K'; simp only [go_sem, *]) | (simp only [thenA, inBlockA, go_sem, *]))
 refine s_loop rfl (fun zn zN zenv zAs => ∃ (i : Nat) (dd : Dice) (acc : List Plate), zn = (n) - i ∧ i ≤ (n) ∧ (PlP most d (n - i) dd acc (RL, RD)) ∧ zN = 63 ∧ zenv = [(6, iV ((n - i : Nat) : Int)), (5, .own 1 2 0 acc.length), (0, .ptr 0 0)] ∧ zAs = [diceBox dd, .row 2 (acc.map Plate.enc)]) (n) ⟨[some 0, none], [], _, _, _, (by (simp only [Weak, go_sem, List.map_append, List.map_set, *] <;> (try simp (disch := omega) only [wrap_succ]) <;> (try simp) <;> (try omega))), 0, d0, [], (by simp), (by simp), (by exact h0), rfl, rfl, rfl⟩ ?_; rintro _ _ _ _ ⟨i, dd, acc, rfl, hi, hP, rfl, rfl, rfl⟩
 clear h0 st
 by_cases hi2 : i < n
 ·obtain ⟨k, hk⟩ : ∃ k, n - i = k + 1 := ⟨n - i - 1, by omega⟩
  have hk2 : n - (i + 1) = k := by omega
  rw [hk] at hP ⊢
  have hnx := hP.next
  have hw1 : IntKind.i64.wrap (((k + 1 : Nat) : Int) - 1) = (k : Int) := by rw [wrap_i64 (by omega) (by omega)]; omega
  have hgt : ((k + 1 : Nat) : Int) > 0 := by omega
  obtain ⟨_, hdl, hal⟩ := hP
  have s1 := sp_From dd 1 9 hdl (by omega) (by omega)
  have s2 := sp_Once (fromD 1 9 dd) 4 (by rw [fromD_list]; exact hdl) (by omega)
  have s3 := sp_From (onceR 4 (fromD 1 9 dd)) 1 2 (by rw [onceR_list, fromD_list]; exact hdl) (by omega) (by omega)
  unfold plateN at hnx
  generalize fromN 1 9 dd = x1 at *
  generalize fromD 1 9 dd = d1 at *
  generalize onceR 4 d1 = d2 at *
  generalize fromN 1 2 d2 = x2 at *
  generalize fromD 1 2 d2 = d3 at *
  obtain ⟨⟨x, d'⟩, hxd⟩ : ∃ xd, xd = plateK x1 (onceT 4 d1) x2 d3 d2 := ⟨_, rfl⟩
  rw [← hxd] at hnx
  generalize onceT 4 d1 = b at *
  have hxq : b = true ∧ x = ⟨x1, x2⟩ ∧ d' = d3 ∨ b = false ∧ x = ⟨x1, 0⟩ ∧ d' = d2 := by
   unfold plateK at hxd
   cases b
   ·right; simpa using hxd
   ·left; simpa using hxd
  clear hxd
  rcases hxq with ⟨rfl, hx, hd⟩ | ⟨rfl, hx, hd⟩
  all_goals repeat' (first | (with_reducible (show runOps ..); first | (refine Qr rfl ?_; try intro K' hK; try simp only [go_sem, *]) | (refine Qi rfl rfl rfl rfl (fun hb K' hK => ?_) (fun hb => ?_) <;> (have hc := hb; try simp only [go_sem] at hc; simp only [go_sem, *]))) | (with_reducible (show Hold ..); first | refine Qh rfl ?_ | refine s_draw rfl Tryz.mixed (by kernel_rfl) ?_ | (refine s_cond rfl ⟨_, rfl, fun hb => ?_, fun hb => ?_⟩ <;> (have hc := hb; try simp only [go_sem] at hc)) | refine s_ret rfl ?_) | (with_reducible (show callA ..); first | (refine call_of [0] [] (s1) (by simp) ?_ ?_ (by simp) (.inl rfl) ?_ ?_ ?_; (focus (simp only [go_sem, *]; done)); (focus (simp only [go_sem, *]; done)); (focus (first | (simp; done) | (simp [go_sem]; done))); (focus (first | (simp; done) | (simp [go_sem]; done))); simp only [go_sem, *]) | (refine call_of [0] [] (s2) (by simp) ?_ ?_ (by simp) (.inl rfl) ?_ ?_ ?_; (focus (simp only [go_sem, *]; done)); (focus (simp only [go_sem, *]; done)); (focus (first | (simp; done) | (simp [go_sem]; done))); (focus (first | (simp; done) | (simp [go_sem]; done))); simp only [go_sem, *]) | (refine call_of [0] [] (s3) (by simp) ?_ ?_ (by simp) (.inl rfl) ?_ ?_ ?_; (focus (simp only [go_sem, *]; done)); (focus (simp only [go_sem, *]; done)); (focus (first | (simp; done) | (simp [go_sem]; done))); (focus (first | (simp; done) | (simp [go_sem]; done))); simp only [go_sem, *])) | ((with_reducible refine Qb ?_ ?_); focus kernel_rfl) | ((with_reducible refine And.intro ?_ ?_); focus omega) | (refine contA_of hK ?_; clear hK K'; simp only [go_sem, *]) | (simp only [thenA, inBlockA, go_sem, *]))
  all_goals first | contradiction | skip
  all_goals
   have hx1 := congrArg Plate.number hx
   have hx2 := congrArg Plate.letter hx
   simp only at hx1 hx2
   refine hold_weak (N := 63) (env := [(8, iV 0), (7, .ptr 2 0), (6, iV ((k + 1 : Nat) : Int)), (5, .own 1 2 0 acc.length), (0, .ptr 0 0)]) (As := [diceBox d', .row 2 (acc.map Plate.enc), .box [iV x.number, iV x.letter]]) [some 0, some 1, some 2] [] (by (simp only [Weak, go_sem, List.map_append, List.map_set, *] <;> (try simp (disch := omega) only [wrap_succ]) <;> (try simp) <;> (try omega))) ?_
   clear hx hd hx1 hx2 s1 s2 s3 hm hr
   refine s_loop rfl (fun zn zN zenv zAs => ∃ (j : Nat), zn = (acc.length) - j ∧ j ≤ (acc.length) ∧ (AtP x acc j) ∧ zN = 63 ∧ zenv = [(8, iV j), (7, .ptr 2 0), (6, iV ((k + 1 : Nat) : Int)), (5, .own 1 2 0 acc.length), (0, .ptr 0 0)] ∧ zAs = [diceBox d', .row 2 (acc.map Plate.enc), .box [iV x.number, iV x.letter]]) (acc.length) ⟨[some 0, some 1, some 2], [], _, _, _, (by (simp only [Weak, go_sem, List.map_append, List.map_set, *] <;> (try simp (disch := omega) only [wrap_succ]) <;> (try simp) <;> (try omega))), 0, (by simp), (by simp), (by exact fun m hm => absurd hm (by omega)), rfl, rfl, rfl⟩ ?_; rintro _ _ _ _ ⟨j, rfl, hj, hJ, rfl, rfl, rfl⟩
   have hmn : min j acc.length = j := by omega
   have hl2 : j + (acc.length - j + 1) = j + 1 + (acc.length - j) := by omega
   have hdl2 : (List.drop j (List.map Plate.enc acc)).length = acc.length - j := by simp
   have htd : List.take (acc.length - j) (List.drop j (List.map Plate.enc acc)) = List.drop j (List.map Plate.enc acc) := List.take_of_length_le (by simp)
   by_cases hj2 : j < acc.length
   ·have hj3 : ((j : Int) == (acc.length : Int)) = false := by simp; omega
    have sb := sp_before (acc.getD j default) x
    by_cases hlt : (acc.getD j default).lt x = true
    ·rw [hlt] at sb
     repeat' (first | (with_reducible (show runOps ..); first | (refine Qr rfl ?_; try intro K' hK; try simp only [go_sem, *]) | (refine Qi rfl rfl rfl rfl (fun hb K' hK => ?_) (fun hb => ?_) <;> (have hc := hb; try simp only [go_sem] at hc; simp only [go_sem, *]))) | (with_reducible (show Hold ..); first | refine Qh rfl ?_ | refine s_draw rfl Tryz.mixed (by kernel_rfl) ?_ | (refine s_cond rfl ⟨_, rfl, fun hb => ?_, fun hb => ?_⟩ <;> (have hc := hb; try simp only [go_sem] at hc)) | refine s_ret rfl ?_) | (with_reducible (show (∀ _ : AV, _ → _) ∧ _); refine And.intro ?_ ?_; (focus (intro y hy; first | (obtain ⟨z, _, rfl⟩ := List.mem_map.1 (hy); simp [go_sem]; done) | (obtain ⟨z, _, rfl⟩ := List.mem_map.1 (List.mem_of_mem_take hy); simp [go_sem]; done) | (obtain ⟨z, _, rfl⟩ := List.mem_map.1 (List.mem_of_mem_drop hy); simp [go_sem]; done) | (obtain ⟨z, _, rfl⟩ := List.mem_map.1 (List.mem_of_mem_drop (List.mem_of_mem_take hy)); simp [go_sem]; done)))) | (with_reducible (show callA ..); first | (refine call_s (sb) ?_ ?_; (focus (simp only [go_sem, *]; done)); simp only [go_sem, *])) | ((with_reducible refine Qb ?_ ?_); focus kernel_rfl) | ((with_reducible refine And.intro ?_ ?_); focus omega) | (refine contA_of hK ?_; clear hK K'; simp only [go_sem, *]) | (simp only [thenA, inBlockA, go_sem, *]))
     all_goals first | contradiction | skip
     refine ⟨_, (by omega), [some 0, some 1, some 2], [], _, _, _, (by (simp only [Weak, go_sem, List.map_append, List.map_set, *] <;> (try simp (disch := omega) only [wrap_succ]) <;> (try simp) <;> (try omega))), j + 1, rfl, (by omega), (by exact hJ.next hlt), rfl, rfl, rfl⟩
    ·rw [Bool.not_eq_true] at hlt
     rw [hlt] at sb
     have hin := insPl_at (by omega) hJ (fun _ => hlt)
     by_cases heq : acc.getD j default = x
     ·rw [if_pos ⟨hj2, heq⟩] at hin
      rw [hin] at hnx
      clear hin
      have hne : (decide (acc.getD j default = x)) = true := by simpa using heq
      clear heq
      repeat' (first | (with_reducible (show runOps ..); first | (refine Qr rfl ?_; try intro K' hK; try simp only [go_sem, *]) | (refine Qi rfl rfl rfl rfl (fun hb K' hK => ?_) (fun hb => ?_) <;> (have hc := hb; try simp only [go_sem] at hc; simp only [go_sem, *]))) | (with_reducible (show Hold ..); first | refine Qh rfl ?_ | refine s_draw rfl Tryz.mixed (by kernel_rfl) ?_ | (refine s_cond rfl ⟨_, rfl, fun hb => ?_, fun hb => ?_⟩ <;> (have hc := hb; try simp only [go_sem] at hc)) | refine s_ret rfl ?_) | (with_reducible (show (∀ _ : AV, _ → _) ∧ _); refine And.intro ?_ ?_; (focus (intro y hy; first | (obtain ⟨z, _, rfl⟩ := List.mem_map.1 (hy); simp [go_sem]; done) | (obtain ⟨z, _, rfl⟩ := List.mem_map.1 (List.mem_of_mem_take hy); simp [go_sem]; done) | (obtain ⟨z, _, rfl⟩ := List.mem_map.1 (List.mem_of_mem_drop hy); simp [go_sem]; done) | (obtain ⟨z, _, rfl⟩ := List.mem_map.1 (List.mem_of_mem_drop (List.mem_of_mem_take hy)); simp [go_sem]; done)))) | (with_reducible (show callA ..); first | (refine call_s (sb) ?_ ?_; (focus (simp only [go_sem, *]; done)); simp only [go_sem, *])) | ((with_reducible refine Qb ?_ ?_); focus kernel_rfl) | ((with_reducible refine And.intro ?_ ?_); focus omega) | (refine contA_of hK ?_; clear hK K'; simp only [go_sem, *]) | (simp only [thenA, inBlockA, go_sem, *]))
      all_goals first | contradiction | skip
      refine ⟨_, (by omega), [some 0, some 1], [], _, _, _, (by (simp only [Weak, go_sem, List.map_append, List.map_set, *] <;> (try simp (disch := omega) only [wrap_succ]) <;> (try simp) <;> (try omega))), i + 1, d', acc, rfl, (by omega), (by rw [hk2]; exact hnx), rfl, rfl, rfl⟩
     ·rw [if_neg (fun h => heq h.2)] at hin
      rw [hin] at hnx
      clear hin
      have hne : (decide (acc.getD j default = x)) = false := by simpa using heq
      clear heq
      repeat' (first | (with_reducible (show runOps ..); first | (refine Qr rfl ?_; try intro K' hK; try simp only [go_sem, *]) | (refine Qi rfl rfl rfl rfl (fun hb K' hK => ?_) (fun hb => ?_) <;> (have hc := hb; try simp only [go_sem] at hc; simp only [go_sem, *]))) | (with_reducible (show Hold ..); first | refine Qh rfl ?_ | refine s_draw rfl Tryz.mixed (by kernel_rfl) ?_ | (refine s_cond rfl ⟨_, rfl, fun hb => ?_, fun hb => ?_⟩ <;> (have hc := hb; try simp only [go_sem] at hc)) | refine s_ret rfl ?_) | (with_reducible (show (∀ _ : AV, _ → _) ∧ _); refine And.intro ?_ ?_; (focus (intro y hy; first | (obtain ⟨z, _, rfl⟩ := List.mem_map.1 (hy); simp [go_sem]; done) | (obtain ⟨z, _, rfl⟩ := List.mem_map.1 (List.mem_of_mem_take hy); simp [go_sem]; done) | (obtain ⟨z, _, rfl⟩ := List.mem_map.1 (List.mem_of_mem_drop hy); simp [go_sem]; done) | (obtain ⟨z, _, rfl⟩ := List.mem_map.1 (List.mem_of_mem_drop (List.mem_of_mem_take hy)); simp [go_sem]; done)))) | (with_reducible (show callA ..); first | (refine call_s (sb) ?_ ?_; (focus (simp only [go_sem, *]; done)); simp only [go_sem, *])) | ((with_reducible refine Qb ?_ ?_); focus kernel_rfl) | ((with_reducible refine And.intro ?_ ?_); focus omega) | (refine contA_of hK ?_; clear hK K'; simp only [go_sem, *]) | (simp only [thenA, inBlockA, go_sem, *]))
      all_goals first | contradiction | skip
      refine ⟨_, (by omega), [some 0, some 7], [], _, _, _, (by (simp only [Weak, go_sem, List.map_append, List.map_set, *] <;> (try simp (disch := omega) only [wrap_succ]) <;> (try simp) <;> (try omega))), i + 1, d', acc.take j ++ x :: acc.drop j, rfl, (by omega), (by rw [hk2]; exact hnx), rfl, rfl, rfl⟩
   ·have hin := insPl_at (x := x) (l := acc) (k := j) (by omega) hJ (fun h => absurd h hj2)
    rw [if_neg (fun h => hj2 h.1)] at hin
    rw [hin] at hnx
    clear hin
    have hj3 : ((j : Int) == (acc.length : Int)) = true := by simp; omega
    repeat' (first | (with_reducible (show runOps ..); first | (refine Qr rfl ?_; try intro K' hK; try simp only [go_sem, *]) | (refine Qi rfl rfl rfl rfl (fun hb K' hK => ?_) (fun hb => ?_) <;> (have hc := hb; try simp only [go_sem] at hc; simp only [go_sem, *]))) | (with_reducible (show Hold ..); first | refine Qh rfl ?_ | refine s_draw rfl Tryz.mixed (by kernel_rfl) ?_ | (refine s_cond rfl ⟨_, rfl, fun hb => ?_, fun hb => ?_⟩ <;> (have hc := hb; try simp only [go_sem] at hc)) | refine s_ret rfl ?_) | (with_reducible (show (∀ _ : AV, _ → _) ∧ _); refine And.intro ?_ ?_; (focus (intro y hy; first | (obtain ⟨z, _, rfl⟩ := List.mem_map.1 (hy); simp [go_sem]; done) | (obtain ⟨z, _, rfl⟩ := List.mem_map.1 (List.mem_of_mem_take hy); simp [go_sem]; done) | (obtain ⟨z, _, rfl⟩ := List.mem_map.1 (List.mem_of_mem_drop hy); simp [go_sem]; done) | (obtain ⟨z, _, rfl⟩ := List.mem_map.1 (List.mem_of_mem_drop (List.mem_of_mem_take hy)); simp [go_sem]; done)))) | ((with_reducible refine Qb ?_ ?_); focus kernel_rfl) | ((with_reducible refine And.intro ?_ ?_); focus omega) | (refine contA_of hK ?_; clear hK K'; simp only [go_sem, *]) | (simp only [thenA, inBlockA, go_sem, *]))
    all_goals first | contradiction | skip
    refine ⟨_, (by omega), [some 0, some 7], [], _, _, _, (by (simp only [Weak, go_sem, List.map_append, List.map_set, *] <;> (try simp (disch := omega) only [wrap_succ]) <;> (try simp) <;> (try omega))), i + 1, d', acc.take j ++ x :: acc.drop j, rfl, (by omega), (by rw [hk2]; exact hnx), rfl, rfl, rfl⟩
 ·have hni : n - i = 0 := by omega
  rw [hni] at hP ⊢
  obtain ⟨e, _, _⟩ := hP
  rw [platesN] at e
  cases e
  repeat' (first | (with_reducible (show runOps ..); first | (refine Qr rfl ?_; try intro K' hK; try simp only [go_sem, *]) | (refine Qi rfl rfl rfl rfl (fun hb K' hK => ?_) (fun hb => ?_) <;> (have hc := hb; try simp only [go_sem] at hc; simp only [go_sem, *]))) | (with_reducible (show Hold ..); first | refine Qh rfl ?_ | refine s_draw rfl Tryz.mixed (by kernel_rfl) ?_ | (refine s_cond rfl ⟨_, rfl, fun hb => ?_, fun hb => ?_⟩ <;> (have hc := hb; try simp only [go_sem] at hc)) | refine s_ret rfl ?_) | ((with_reducible refine Qb ?_ ?_); focus kernel_rfl) | ((with_reducible refine And.intro ?_ ?_); focus omega) | (refine contA_of hK ?_; clear hK K'; simp only [go_sem, *]) | (simp only [thenA, inBlockA, go_sem, *]))
  refine ⟨[_], [some 0], [1], ⟨rfl, trivial⟩, ?_⟩
  simp only [go_sem, *]
end Go.Abs

namespace Go.Abs
open Go Go.Proofs
set_option maxRecDepth 10000
set_option maxHeartbeats 4000000
theorem streetN_list (d : Dice) (h : Int) : (streetN d h).2.list = d.list := by unfold streetN; rw [platesOf_list, onceR_list]
theorem streetsN_list (h : Int) : ∀ (n : Nat) (d : Dice) (out : Plan), (streetsN h n d out).2.list = d.list
 | 0, d, out => rfl
 | n + 1, d, out => by rw [streetsN, streetsN_list h n]; exact streetN_list d h
theorem planOf_list (d : Dice) (h : Int) : (planOf d h).2.list = d.list := by unfold planOf; rw [streetsN_list, fromD_list]
def StP (houses : Int) (k : Nat) (dd : Dice) (acc : Plan) (R : Plan × Dice) : Prop := streetsN houses k dd acc = R ∧ dd.list.length ≤ 4294967296 ∧ acc.length + k ≤ 3
theorem StP.next {houses : Int} {dd : Dice} {k : Nat} {acc : Plan} {R : Plan × Dice} (h : StP houses (k + 1) dd acc R) : StP houses k (streetN dd houses).2 (acc ++ [(streetN dd houses).1]) R := by
 obtain ⟨h1, h2, h3⟩ := h
 exact ⟨h1, by rw [streetN_list]; exact h2, by simp; omega⟩
theorem sp_PlanOf (d : Dice) (houses : Int) (h : d.list.length ≤ 4294967296) (hm : houses ≤ 8) :
  Spec Tryz.prog 22 [.ptr 0 0, iV houses] [diceBox d] (encPlan (planOf d houses).1) [diceBox (planOf d houses).2] := by
 have st := sp_From d 1 3 h (by omega) (by omega)
 have hr := fromN_le (lo := 1) (hi := 3) (by omega) d
 obtain ⟨n, hn⟩ : ∃ n : Nat, fromN 1 3 d = n := ⟨(fromN 1 3 d).toNat, by omega⟩
 have h0 : StP houses (n - 0) (fromD 1 3 d) [] (planOf d houses) := by
  unfold planOf
  rw [hn]
  exact ⟨by simp, by rw [fromD_list]; exact h, by simp; omega⟩
 rw [hn] at st hr
 generalize planOf d houses = R at *
 obtain ⟨RL, RD⟩ := R
 clear hn
 generalize fromD 1 3 d = d0 at *
 refine spec_body Tryz.func22 rfl (fun E hE => ?_); simp only [go_sem, Tryz.ntmps22]
 repeat' (first | (with_reducible (show runOps ..); first | (refine Qr rfl ?_; try intro K' hK; try simp only [go_sem, *])) | (with_reducible (show Hold ..); first | refine Qh rfl ?_ | refine s_draw rfl Tryz.mixed (by kernel_rfl) ?_ | (refine s_cond rfl ⟨_, rfl, fun hb => ?_, fun hb => ?_⟩ <;> (have hc := hb; try simp only [go_sem] at hc)) | refine s_ret rfl ?_) | (with_reducible (show callA ..); first | (refine call_of [0] [] (st) (by simp) ?_ ?_ (by simp) (.inl rfl) ?_ ?_ ?_; (focus (simp only [go_sem, *]; done)); (focus (simp only [go_sem, *]; done)); (focus (first | (simp; done) | (simp [go_sem]; done))); (focus (first | (simp; done) | (simp [go_sem]; done))); simp only [go_sem, *])) | ((with_reducible refine Qb ?_ ?_); focus kernel_rfl) | ((with_reducible refine And.intro ?_ ?_); focus omega) | (refine contA_of hK ?_; clear hK K'; simp only [go_sem, *]) | (simp only [thenA, inBlockA, go_sem, *]))
 refine s_loop rfl (fun zn zN zenv zAs => ∃ (i : Nat) (dd : Dice) (acc : Plan), zn = (n) - i ∧ i ≤ (n) ∧ (StP houses (n - i) dd acc (RL, RD)) ∧ zN = 26 ∧ zenv = [(6, iV ((n - i : Nat) : Int)), (5, .ptr 2 0), (4, .ptr 1 0), (1, iV houses), (0, .ptr 0 0)] ∧ zAs = [diceBox dd, .box [nilV], .box [.own 3 1 0 acc.length], .box (acc.map encStreet)]) (n) ⟨[some 0, some 1, some 2, none], [], _, _, _, (by (simp only [Weak, go_sem, List.map_append, List.map_set, *] <;> (try simp (disch := omega) only [wrap_succ]) <;> (try simp) <;> (try omega))), 0, d0, [], (by simp), (by simp), (by exact h0), rfl, rfl, rfl⟩ ?_; rintro _ _ _ _ ⟨i, dd, acc, rfl, hi, hP, rfl, rfl, rfl⟩
 clear h0 st
 by_cases hi2 : i < n
 ·obtain ⟨k, hk⟩ : ∃ k, n - i = k + 1 := ⟨n - i - 1, by omega⟩
  have hk2 : n - (i + 1) = k := by omega
  rw [hk] at hP ⊢
  have hnx := hP.next
  have hw1 : IntKind.i64.wrap (((k + 1 : Nat) : Int) - 1) = (k : Int) := by rw [wrap_i64 (by omega) (by omega)]; omega
  have hgt : ((k + 1 : Nat) : Int) > 0 := by omega
  obtain ⟨_, hdl, hal⟩ := hP
  have s2 := sp_Once dd 3 hdl (by omega)
  have hol : (onceR 3 dd).list.length ≤ 4294967296 := by rw [onceR_list]; exact hdl
  unfold streetN at hnx
  generalize onceR 3 dd = d2 at *
  by_cases b : onceT 3 dd = true
  ·rw [if_pos b] at hnx
   rw [b] at s2
   clear b
   have s3 := sp_PlatesOf d2 0 hol (by omega)
   generalize platesOf d2 0 = L at *
   obtain ⟨l, d3⟩ := L
   have hnx2 : StP houses k d3 (acc ++ [l]) (RL, RD) := hnx
   clear hnx
   simp only at s3
   repeat' (first | (with_reducible (show runOps ..); first | (refine Qr rfl ?_; try intro K' hK; try simp only [go_sem, *])) | (with_reducible (show Hold ..); first | refine Qh rfl ?_ | refine s_draw rfl Tryz.mixed (by kernel_rfl) ?_ | (refine s_cond rfl ⟨_, rfl, fun hb => ?_, fun hb => ?_⟩ <;> (have hc := hb; try simp only [go_sem] at hc)) | refine s_ret rfl ?_) | (with_reducible (show callA ..); first | (refine call_of [0] [] (s2) (by simp) ?_ ?_ (by simp) (.inl rfl) ?_ ?_ ?_; (focus (simp only [go_sem, *]; done)); (focus (simp only [go_sem, *]; done)); (focus (first | (simp; done) | (simp [go_sem]; done))); (focus (first | (simp; done) | (simp [go_sem]; done))); simp only [go_sem, *]) | (refine call_of [0] [] (s3) (by simp) ?_ ?_ (by simp) (.inl rfl) ?_ ?_ ?_; (focus (simp only [go_sem, *]; done)); (focus (simp only [go_sem, *]; done)); (focus (first | (simp; done) | (simp [go_sem]; done))); (focus (first | (simp; done) | (simp [go_sem]; done))); simp only [go_sem, *])) | ((with_reducible refine Qb ?_ ?_); focus kernel_rfl) | ((with_reducible refine And.intro ?_ ?_); focus omega) | (refine contA_of hK ?_; clear hK K'; simp only [go_sem, *]) | (simp only [thenA, inBlockA, go_sem, *]))
   all_goals first | contradiction | skip
   refine ⟨_, (by omega), [some 0, some 1, some 2, some 5], [], _, _, _, (by (simp only [Weak, go_sem, List.map_append, List.map_set, *] <;> (try simp (disch := omega) only [wrap_succ]) <;> (try simp) <;> (try omega))), i + 1, d3, acc ++ [l], rfl, (by omega), (by rw [hk2]; exact hnx2), rfl, rfl, rfl⟩
  ·rw [if_neg b] at hnx
   rw [Bool.not_eq_true] at b
   rw [b] at s2
   clear b
   have s3 := sp_PlatesOf d2 houses hol hm
   generalize platesOf d2 houses = L at *
   obtain ⟨l, d3⟩ := L
   have hnx2 : StP houses k d3 (acc ++ [l]) (RL, RD) := hnx
   clear hnx
   simp only at s3
   repeat' (first | (with_reducible (show runOps ..); first | (refine Qr rfl ?_; try intro K' hK; try simp only [go_sem, *])) | (with_reducible (show Hold ..); first | refine Qh rfl ?_ | refine s_draw rfl Tryz.mixed (by kernel_rfl) ?_ | (refine s_cond rfl ⟨_, rfl, fun hb => ?_, fun hb => ?_⟩ <;> (have hc := hb; try simp only [go_sem] at hc)) | refine s_ret rfl ?_) | (with_reducible (show callA ..); first | (refine call_of [0] [] (s2) (by simp) ?_ ?_ (by simp) (.inl rfl) ?_ ?_ ?_; (focus (simp only [go_sem, *]; done)); (focus (simp only [go_sem, *]; done)); (focus (first | (simp; done) | (simp [go_sem]; done))); (focus (first | (simp; done) | (simp [go_sem]; done))); simp only [go_sem, *]) | (refine call_of [0] [] (s3) (by simp) ?_ ?_ (by simp) (.inl rfl) ?_ ?_ ?_; (focus (simp only [go_sem, *]; done)); (focus (simp only [go_sem, *]; done)); (focus (first | (simp; done) | (simp [go_sem]; done))); (focus (first | (simp; done) | (simp [go_sem]; done))); simp only [go_sem, *])) | ((with_reducible refine Qb ?_ ?_); focus kernel_rfl) | ((with_reducible refine And.intro ?_ ?_); focus omega) | (refine contA_of hK ?_; clear hK K'; simp only [go_sem, *]) | (simp only [thenA, inBlockA, go_sem, *]))
   all_goals first | contradiction | skip
   refine ⟨_, (by omega), [some 0, some 1, some 2, some 5], [], _, _, _, (by (simp only [Weak, go_sem, List.map_append, List.map_set, *] <;> (try simp (disch := omega) only [wrap_succ]) <;> (try simp) <;> (try omega))), i + 1, d3, acc ++ [l], rfl, (by omega), (by rw [hk2]; exact hnx2), rfl, rfl, rfl⟩
 ·have hni : n - i = 0 := by omega
  rw [hni] at hP ⊢
  obtain ⟨e, _, _⟩ := hP
  rw [streetsN] at e
  cases e
  repeat' (first | (with_reducible (show runOps ..); first | (refine Qr rfl ?_; try intro K' hK; try simp only [go_sem, *])) | (with_reducible (show Hold ..); first | refine Qh rfl ?_ | refine s_draw rfl Tryz.mixed (by kernel_rfl) ?_ | (refine s_cond rfl ⟨_, rfl, fun hb => ?_, fun hb => ?_⟩ <;> (have hc := hb; try simp only [go_sem] at hc)) | refine s_ret rfl ?_) | ((with_reducible refine Qb ?_ ?_); focus kernel_rfl) | ((with_reducible refine And.intro ?_ ?_); focus omega) | (refine contA_of hK ?_; clear hK K'; simp only [go_sem, *]) | (simp only [thenA, inBlockA, go_sem, *]))
  refine ⟨[.agg [.own 3 1 0 (List.length RL)]], [some 0], [3], ⟨by simp only [resOne, go_sem], trivial⟩, ?_⟩
  simp only [go_sem, *]
  simp
end Go.Abs

namespace Go.Abs
open Go Go.Proofs
set_option maxRecDepth 10000
set_option maxHeartbeats 4000000
theorem somePlate_list (d : Dice) (l : List Plate) : (somePlate d l).2.list = d.list := by
 unfold somePlate
 split
 ·exact toD_list _ _
 ·split
  ·show (fromD 1 9 (onceR 12 d)).list = _
   unfold fromD onceR; rw [toD_list, toD_list]
  ·show (toD _ (onceR 12 d)).list = _
   unfold onceR; rw [toD_list, toD_list]
theorem sp_plateOf (d : Dice) (l : List Plate) (h : d.list.length ≤ 4294967296) (hl : l.length ≤ 4294967296) :
  Spec Tryz.prog 86 [.ptr 0 0, encStreet l] [diceBox d] (Plate.enc (somePlate d l).1) [diceBox (somePlate d l).2] := by
 have ho : (onceR 12 d).list.length ≤ 4294967296 := by unfold onceR; rw [toD_list]; exact h
 by_cases q : l.length = 0
 ·have s1 := sp_From d 1 9 h (by omega) (by omega)
  have e : somePlate d l = (⟨fromN 1 9 d, 0⟩, fromD 1 9 d) := by unfold somePlate; rw [if_pos q]
  rw [e]
  have q2 : ((l.length : Int) == 0) = true := by rw [beq_iff_eq]; omega
  clear e
  generalize fromN 1 9 d = x1 at *
  generalize fromD 1 9 d = d1 at *
  refine spec_body Tryz.func86 rfl (fun E hE => ?_); simp only [go_sem, Tryz.ntmps86]
  repeat' (first | (with_reducible (show runOps ..); first | (refine Qr rfl ?_; try intro K' hK; try simp only [go_sem, *]) | (refine Qi rfl rfl rfl rfl (fun hb K' hK => ?_) (fun hb => ?_) <;> (have hc := hb; try simp only [go_sem] at hc; simp only [go_sem, *]))) | (with_reducible (show Hold ..); first | refine Qh rfl ?_ | (refine s_cond rfl ⟨_, rfl, fun hb => ?_, fun hb => ?_⟩ <;> (have hc := hb; try simp only [go_sem] at hc)) | refine s_ret rfl ?_) | (with_reducible (show callA ..); first | (refine call_of [0] [] (s1) (by simp) ?_ ?_ (by simp) (.inl rfl) ?_ ?_ ?_; (focus (simp only [go_sem, *]; done)); (focus (simp only [go_sem, *]; done)); (focus (first | (simp; done) | (simp [go_sem]; done))); (focus (first | (simp; done) | (simp [go_sem]; done))); simp only [go_sem, *])) | ((with_reducible refine Qb ?_ ?_); focus kernel_rfl) | ((with_reducible refine And.intro ?_ ?_); focus omega) | (refine contA_of hK ?_; clear hK K'; simp only [go_sem, *]) | (simp only [thenA, inBlockA, go_sem, *]))
  all_goals first | contradiction | skip
  refine ⟨[.agg [iV x1, iV 0]], [some 0], [], ⟨by simp only [resOne, go_sem], trivial⟩, ?_⟩
  simp only [go_sem, *]
 ·have q2 : ((l.length : Int) == 0) = false := by rw [beq_eq_false_iff_ne]; omega
  have so := sp_Once d 12 h (by omega)
  have e : somePlate d l = if onceT 12 d = true then (⟨fromN 1 9 (onceR 12 d), 0⟩, fromD 1 9 (onceR 12 d)) else (l.getD (toN (l.length - 1) (onceR 12 d)).toNat default, toD (l.length - 1) (onceR 12 d)) := by unfold somePlate; rw [if_neg q]
  rw [e]
  clear e
  generalize onceR 12 d = d1 at *
  by_cases b : onceT 12 d = true
  ·have s1 := sp_From d1 1 9 ho (by omega) (by omega)
   rw [if_pos b]
   rw [b] at so
   clear b
   generalize fromN 1 9 d1 = x1 at *
   generalize fromD 1 9 d1 = d2 at *
   refine spec_body Tryz.func86 rfl (fun E hE => ?_); simp only [go_sem, Tryz.ntmps86]
   repeat' (first | (with_reducible (show runOps ..); first | (refine Qr rfl ?_; try intro K' hK; try simp only [go_sem, *]) | (refine Qi rfl rfl rfl rfl (fun hb K' hK => ?_) (fun hb => ?_) <;> (have hc := hb; try simp only [go_sem] at hc; simp only [go_sem, *]))) | (with_reducible (show Hold ..); first | refine Qh rfl ?_ | (refine s_cond rfl ⟨_, rfl, fun hb => ?_, fun hb => ?_⟩ <;> (have hc := hb; try simp only [go_sem] at hc)) | refine s_ret rfl ?_) | (with_reducible (show callA ..); first | (refine call_of [0] [] (so) (by simp) ?_ ?_ (by simp) (.inl rfl) ?_ ?_ ?_; (focus (simp only [go_sem, *]; done)); (focus (simp only [go_sem, *]; done)); (focus (first | (simp; done) | (simp [go_sem]; done))); (focus (first | (simp; done) | (simp [go_sem]; done))); simp only [go_sem, *]) | (refine call_of [0] [] (s1) (by simp) ?_ ?_ (by simp) (.inl rfl) ?_ ?_ ?_; (focus (simp only [go_sem, *]; done)); (focus (simp only [go_sem, *]; done)); (focus (first | (simp; done) | (simp [go_sem]; done))); (focus (first | (simp; done) | (simp [go_sem]; done))); simp only [go_sem, *])) | ((with_reducible refine Qb ?_ ?_); focus kernel_rfl) | ((with_reducible refine And.intro ?_ ?_); focus omega) | (refine contA_of hK ?_; clear hK K'; simp only [go_sem, *]) | (simp only [thenA, inBlockA, go_sem, *]))
   all_goals first | contradiction | skip
   refine ⟨[.agg [iV x1, iV 0]], [some 0], [], ⟨by simp only [resOne, go_sem], trivial⟩, ?_⟩
   simp only [go_sem, *]
  ·rw [if_neg b]
   rw [Bool.not_eq_true] at b
   rw [b] at so
   clear b
   have s1 := sp_To d1 ((l.length : Int) - 1) ho (by omega)
   have hr := toN_le (n := (l.length : Int) - 1) (by omega) d1
   have hw : IntKind.i64.wrap ((l.length : Int) - 1) = (l.length : Int) - 1 := wrap_i64 (by omega) (by omega)
   obtain ⟨k, hk⟩ : ∃ k : Nat, toN ((l.length : Int) - 1) d1 = k := ⟨(toN ((l.length : Int) - 1) d1).toNat, by omega⟩
   rw [hk] at hr s1 ⊢
   have hkl : k < l.length := by omega
   simp only [Int.toNat_natCast]
   clear hk hr
   generalize toD ((l.length : Int) - 1) d1 = d2 at *
   refine spec_body Tryz.func86 rfl (fun E hE => ?_); simp only [go_sem, Tryz.ntmps86]
   repeat' (first | (with_reducible (show runOps ..); first | (refine Qr rfl ?_; try intro K' hK; try simp only [go_sem, *]) | (refine Qi rfl rfl rfl rfl (fun hb K' hK => ?_) (fun hb => ?_) <;> (have hc := hb; try simp only [go_sem] at hc; simp only [go_sem, *]))) | (with_reducible (show Hold ..); first | refine Qh rfl ?_ | (refine s_cond rfl ⟨_, rfl, fun hb => ?_, fun hb => ?_⟩ <;> (have hc := hb; try simp only [go_sem] at hc)) | refine s_ret rfl ?_) | (with_reducible (show callA ..); first | (refine call_of [0] [] (so) (by simp) ?_ ?_ (by simp) (.inl rfl) ?_ ?_ ?_; (focus (simp only [go_sem, *]; done)); (focus (simp only [go_sem, *]; done)); (focus (first | (simp; done) | (simp [go_sem]; done))); (focus (first | (simp; done) | (simp [go_sem]; done))); simp only [go_sem, *]) | (refine call_of [0] [] (s1) (by simp) ?_ ?_ (by simp) (.inl rfl) ?_ ?_ ?_; (focus (simp only [go_sem, *]; done)); (focus (simp only [go_sem, *]; done)); (focus (first | (simp; done) | (simp [go_sem]; done))); (focus (first | (simp; done) | (simp [go_sem]; done))); simp only [go_sem, *])) | ((with_reducible refine Qb ?_ ?_); focus kernel_rfl) | ((with_reducible refine And.intro ?_ ?_); focus omega) | (refine contA_of hK ?_; clear hK K'; simp only [go_sem, *]) | (simp only [thenA, inBlockA, go_sem, *]))
   all_goals first | contradiction | skip
   refine ⟨[(l.getD k default).enc], [some 0], [], ⟨by simp only [resOne, go_sem], trivial⟩, ?_⟩
   simp only [go_sem, *]
end Go.Abs

namespace Go.Abs
open Go Go.Proofs
set_option maxRecDepth 10000
set_option maxHeartbeats 4000000
theorem sp_ChangeOf (d : Dice) (p : Plan) (h : d.list.length ≤ 4294967296) (v : Valid p) :
  Spec Tryz.prog 23 [.ptr 0 0, encPlan p] [diceBox d] (Change.enc (changeOf d p).1) [diceBox (changeOf d p).2] := by
 have hp0 := v.ne
 have hp3 := v.len
 have s1 := sp_From d 1 7 h (by omega) (by omega)
 have s2 := sp_To (fromD 1 7 d) ((p.length : Int) - 1) (by unfold fromD; rw [toD_list]; exact h) (by omega)
 have hr1 := fromN_le (lo := 1) (hi := 7) (by omega) d
 have hr2 := toN_le (n := (p.length : Int) - 1) (by omega) (fromD 1 7 d)
 have hl2 : (toD ((p.length : Int) - 1) (fromD 1 7 d)).list.length ≤ 4294967296 := by unfold fromD; rw [toD_list, toD_list]; exact h
 have hw0 : IntKind.i64.wrap ((p.length : Int) - 1) = (p.length : Int) - 1 := wrap_i64 (by omega) (by omega)
 unfold changeOf
 obtain ⟨s, hs⟩ : ∃ s : Nat, toN ((p.length : Int) - 1) (fromD 1 7 d) = s := ⟨(toN ((p.length : Int) - 1) (fromD 1 7 d)).toNat, by omega⟩
 rw [hs] at hr2 s2 ⊢
 clear hs
 generalize toD ((p.length : Int) - 1) (fromD 1 7 d) = d2 at *
 generalize fromD 1 7 d = d1 at *
 generalize fromN 1 7 d = k at *
 have hsl : s < p.length := by omega
 have hrow : (rowAt p (s : Int)).length ≤ 8 := (v.row _).len
 have hgd : List.getD p s default = rowAt p (s : Int) := rfl
 unfold changeAt
 by_cases k4 : k = 4
 ·rw [if_pos k4]
  subst k4
  have s3 := sp_From d2 1 2 hl2 (by omega) (by omega)
  have hr3 := fromN_le (lo := 1) (hi := 2) (by omega) d2
  generalize fromN 1 2 d2 = x at *
  generalize fromD 1 2 d2 = d3 at *
  have s4 := sp_Mod ((s : Int) + x) (p.length : Int) (by omega) (by omega)
  have hw1 : IntKind.i64.wrap ((s : Int) + x) = (s : Int) + x := wrap_i64 (by omega) (by omega)
  generalize ((s : Int) + x) % (p.length : Int) = o at *
  refine spec_body Tryz.func23 rfl (fun E hE => ?_); simp only [go_sem, Tryz.ntmps23]
  repeat' (first | (with_reducible (show runOps ..); first | (refine Qr rfl ?_; try intro K' hK; try simp only [go_sem, *])) | (with_reducible (show Hold ..); first | refine Qh rfl ?_ | refine s_draw rfl Tryz.mixed (by kernel_rfl) ?_ | (refine s_cond rfl ⟨_, rfl, fun hb => ?_, fun hb => ?_⟩ <;> (have hc := hb; try simp only [go_sem] at hc)) | refine s_ret rfl ?_) | (with_reducible (show callA ..); first | (refine call_of [0] [] (s1) (by simp) ?_ ?_ (by simp) (.inl rfl) ?_ ?_ ?_; (focus (simp only [go_sem, *]; done)); (focus (simp only [go_sem, *]; done)); (focus (first | (simp; done) | (simp [go_sem]; done))); (focus (first | (simp; done) | (simp [go_sem]; done))); simp only [go_sem, *]) | (refine call_of [0] [] (s2) (by simp) ?_ ?_ (by simp) (.inl rfl) ?_ ?_ ?_; (focus (simp only [go_sem, *]; done)); (focus (simp only [go_sem, *]; done)); (focus (first | (simp; done) | (simp [go_sem]; done))); (focus (first | (simp; done) | (simp [go_sem]; done))); simp only [go_sem, *]) | (refine call_of [0] [] (s3) (by simp) ?_ ?_ (by simp) (.inl rfl) ?_ ?_ ?_; (focus (simp only [go_sem, *]; done)); (focus (simp only [go_sem, *]; done)); (focus (first | (simp; done) | (simp [go_sem]; done))); (focus (first | (simp; done) | (simp [go_sem]; done))); simp only [go_sem, *]) | (refine call_s (s4) ?_ ?_; (focus (simp only [go_sem, *]; done)); simp only [go_sem, *])) | ((with_reducible refine Qb ?_ ?_); focus kernel_rfl) | ((with_reducible refine And.intro ?_ ?_); focus omega) | (refine contA_of hK ?_; clear hK K'; simp only [go_sem, *]) | (simp only [thenA, inBlockA, go_sem, *]))
  all_goals first | contradiction | skip
  refine ⟨[.agg [iV 4, iV s, iV o, iV 0, iV 0, iV 0, iV 0]], [some 0], [], ⟨by simp only [resOne, go_sem], trivial⟩, ?_⟩
  simp only [go_sem, zeroPlate, *]
 rw [if_neg k4]
 have k4' : (k == 4) = false := by rw [beq_eq_false_iff_ne]; exact k4
 by_cases k7 : k = 7
 ·rw [if_pos k7]
  subst k7
  have s3 := sp_From d2 1 2 hl2 (by omega) (by omega)
  have hr3 := fromN_le (lo := 1) (hi := 2) (by omega) d2
  have hl3 : (fromD 1 2 d2).list.length ≤ 4294967296 := by unfold fromD; rw [toD_list]; exact hl2
  generalize fromN 1 2 d2 = x at *
  generalize fromD 1 2 d2 = d3 at *
  have s4 := sp_Mod ((s : Int) + x) (p.length : Int) (by omega) (by omega)
  have hw1 : IntKind.i64.wrap ((s : Int) + x) = (s : Int) + x := wrap_i64 (by omega) (by omega)
  generalize ((s : Int) + x) % (p.length : Int) = o at *
  simp only
  have sa := sp_plateOf d3 (rowAt p (s : Int)) hl3 (by omega)
  have hla : (somePlate d3 (rowAt p (s : Int))).2.list.length ≤ 4294967296 := by rw [somePlate_list]; exact hl3
  generalize somePlate d3 (rowAt p (s : Int)) = A at *
  obtain ⟨a, d4⟩ := A
  simp only at sa hla ⊢
  have sb := sp_plateOf d4 (rowAt p (s : Int)) hla (by omega)
  generalize somePlate d4 (rowAt p (s : Int)) = B at *
  obtain ⟨b, d5⟩ := B
  simp only at sb ⊢
  have sc := sp_before b a
  by_cases hlt : b.lt a = true
  ·rw [if_pos hlt]
   rw [hlt] at sc
   clear hlt
   refine spec_body Tryz.func23 rfl (fun E hE => ?_); simp only [go_sem, Tryz.ntmps23]
   repeat' (first | (with_reducible (show runOps ..); first | (refine Qr rfl ?_; try intro K' hK; try simp only [go_sem, *])) | (with_reducible (show Hold ..); first | refine Qh rfl ?_ | refine s_draw rfl Tryz.mixed (by kernel_rfl) ?_ | (refine s_cond rfl ⟨_, rfl, fun hb => ?_, fun hb => ?_⟩ <;> (have hc := hb; try simp only [go_sem] at hc)) | refine s_ret rfl ?_) | (with_reducible (show callA ..); first | ((first | refine call_s (s4) ?_ ?_ | refine call_s (sc) ?_ ?_); (focus (simp only [go_sem, *]; done)); simp only [go_sem, *]) | (refine call_of [0] [] (s1) (by simp) ?_ ?_ (by simp) (.inl rfl) ?_ ?_ ?_; (focus (simp only [go_sem, *]; done)); (focus (simp only [go_sem, *]; done)); (focus (first | (simp; done) | (simp [go_sem]; done))); (focus (first | (simp; done) | (simp [go_sem]; done))); simp only [go_sem, *]) | (refine call_of [0] [] (s2) (by simp) ?_ ?_ (by simp) (.inl rfl) ?_ ?_ ?_; (focus (simp only [go_sem, *]; done)); (focus (simp only [go_sem, *]; done)); (focus (first | (simp; done) | (simp [go_sem]; done))); (focus (first | (simp; done) | (simp [go_sem]; done))); simp only [go_sem, *]) | (refine call_of [0] [] (s3) (by simp) ?_ ?_ (by simp) (.inl rfl) ?_ ?_ ?_; (focus (simp only [go_sem, *]; done)); (focus (simp only [go_sem, *]; done)); (focus (first | (simp; done) | (simp [go_sem]; done))); (focus (first | (simp; done) | (simp [go_sem]; done))); simp only [go_sem, *]) | (refine call_of [0] [] (sa) (by simp) ?_ ?_ (by simp) (.inl rfl) ?_ ?_ ?_; (focus (simp only [go_sem, *]; done)); (focus (simp only [go_sem, *]; done)); (focus (first | (simp; done) | (simp [go_sem]; done))); (focus (first | (simp; done) | (simp [go_sem]; done))); simp only [go_sem, *]) | (refine call_of [0] [] (sb) (by simp) ?_ ?_ (by simp) (.inl rfl) ?_ ?_ ?_; (focus (simp only [go_sem, *]; done)); (focus (simp only [go_sem, *]; done)); (focus (first | (simp; done) | (simp [go_sem]; done))); (focus (first | (simp; done) | (simp [go_sem]; done))); simp only [go_sem, *])) | ((with_reducible refine Qb ?_ ?_); focus kernel_rfl) | ((with_reducible refine And.intro ?_ ?_); focus omega) | (refine contA_of hK ?_; clear hK K'; simp only [go_sem, *]) | (simp only [thenA, inBlockA, go_sem, *]))
   all_goals first | contradiction | skip
   refine ⟨[.agg [iV 7, iV s, iV o, iV b.number, iV b.letter, iV a.number, iV a.letter]], [some 0], [], ⟨by simp only [resOne, go_sem], trivial⟩, ?_⟩
   simp only [go_sem, zeroPlate, *]
  ·rw [if_neg hlt]
   rw [Bool.not_eq_true] at hlt
   rw [hlt] at sc
   clear hlt
   refine spec_body Tryz.func23 rfl (fun E hE => ?_); simp only [go_sem, Tryz.ntmps23]
   repeat' (first | (with_reducible (show runOps ..); first | (refine Qr rfl ?_; try intro K' hK; try simp only [go_sem, *])) | (with_reducible (show Hold ..); first | refine Qh rfl ?_ | refine s_draw rfl Tryz.mixed (by kernel_rfl) ?_ | (refine s_cond rfl ⟨_, rfl, fun hb => ?_, fun hb => ?_⟩ <;> (have hc := hb; try simp only [go_sem] at hc)) | refine s_ret rfl ?_) | (with_reducible (show callA ..); first | ((first | refine call_s (s4) ?_ ?_ | refine call_s (sc) ?_ ?_); (focus (simp only [go_sem, *]; done)); simp only [go_sem, *]) | (refine call_of [0] [] (s1) (by simp) ?_ ?_ (by simp) (.inl rfl) ?_ ?_ ?_; (focus (simp only [go_sem, *]; done)); (focus (simp only [go_sem, *]; done)); (focus (first | (simp; done) | (simp [go_sem]; done))); (focus (first | (simp; done) | (simp [go_sem]; done))); simp only [go_sem, *]) | (refine call_of [0] [] (s2) (by simp) ?_ ?_ (by simp) (.inl rfl) ?_ ?_ ?_; (focus (simp only [go_sem, *]; done)); (focus (simp only [go_sem, *]; done)); (focus (first | (simp; done) | (simp [go_sem]; done))); (focus (first | (simp; done) | (simp [go_sem]; done))); simp only [go_sem, *]) | (refine call_of [0] [] (s3) (by simp) ?_ ?_ (by simp) (.inl rfl) ?_ ?_ ?_; (focus (simp only [go_sem, *]; done)); (focus (simp only [go_sem, *]; done)); (focus (first | (simp; done) | (simp [go_sem]; done))); (focus (first | (simp; done) | (simp [go_sem]; done))); simp only [go_sem, *]) | (refine call_of [0] [] (sa) (by simp) ?_ ?_ (by simp) (.inl rfl) ?_ ?_ ?_; (focus (simp only [go_sem, *]; done)); (focus (simp only [go_sem, *]; done)); (focus (first | (simp; done) | (simp [go_sem]; done))); (focus (first | (simp; done) | (simp [go_sem]; done))); simp only [go_sem, *]) | (refine call_of [0] [] (sb) (by simp) ?_ ?_ (by simp) (.inl rfl) ?_ ?_ ?_; (focus (simp only [go_sem, *]; done)); (focus (simp only [go_sem, *]; done)); (focus (first | (simp; done) | (simp [go_sem]; done))); (focus (first | (simp; done) | (simp [go_sem]; done))); simp only [go_sem, *])) | ((with_reducible refine Qb ?_ ?_); focus kernel_rfl) | ((with_reducible refine And.intro ?_ ?_); focus omega) | (refine contA_of hK ?_; clear hK K'; simp only [go_sem, *]) | (simp only [thenA, inBlockA, go_sem, *]))
   all_goals first | contradiction | skip
   refine ⟨[.agg [iV 7, iV s, iV o, iV a.number, iV a.letter, iV b.number, iV b.letter]], [some 0], [], ⟨by simp only [resOne, go_sem], trivial⟩, ?_⟩
   simp only [go_sem, zeroPlate, *]
 rw [if_neg k7]
 have k7' : (k == 7) = false := by rw [beq_eq_false_iff_ne]; exact k7
 by_cases k56 : k = 5 ∨ k = 6
 ·rw [if_pos k56]
  simp only
  have sa := sp_plateOf d2 (rowAt p (s : Int)) hl2 (by omega)
  generalize somePlate d2 (rowAt p (s : Int)) = A at *
  obtain ⟨a, d4⟩ := A
  simp only at sa ⊢
  rcases k56 with k5 | k6
  ·subst k5
   clear k4 k7
   refine spec_body Tryz.func23 rfl (fun E hE => ?_); simp only [go_sem, Tryz.ntmps23]
   repeat' (first | (with_reducible (show runOps ..); first | (refine Qr rfl ?_; try intro K' hK; try simp only [go_sem, *])) | (with_reducible (show Hold ..); first | refine Qh rfl ?_ | refine s_draw rfl Tryz.mixed (by kernel_rfl) ?_ | (refine s_cond rfl ⟨_, rfl, fun hb => ?_, fun hb => ?_⟩ <;> (have hc := hb; try simp only [go_sem] at hc)) | refine s_ret rfl ?_) | (with_reducible (show callA ..); first | (refine call_of [0] [] (s1) (by simp) ?_ ?_ (by simp) (.inl rfl) ?_ ?_ ?_; (focus (simp only [go_sem, *]; done)); (focus (simp only [go_sem, *]; done)); (focus (first | (simp; done) | (simp [go_sem]; done))); (focus (first | (simp; done) | (simp [go_sem]; done))); simp only [go_sem, *]) | (refine call_of [0] [] (s2) (by simp) ?_ ?_ (by simp) (.inl rfl) ?_ ?_ ?_; (focus (simp only [go_sem, *]; done)); (focus (simp only [go_sem, *]; done)); (focus (first | (simp; done) | (simp [go_sem]; done))); (focus (first | (simp; done) | (simp [go_sem]; done))); simp only [go_sem, *]) | (refine call_of [0] [] (sa) (by simp) ?_ ?_ (by simp) (.inl rfl) ?_ ?_ ?_; (focus (simp only [go_sem, *]; done)); (focus (simp only [go_sem, *]; done)); (focus (first | (simp; done) | (simp [go_sem]; done))); (focus (first | (simp; done) | (simp [go_sem]; done))); simp only [go_sem, *])) | ((with_reducible refine Qb ?_ ?_); focus kernel_rfl) | ((with_reducible refine And.intro ?_ ?_); focus omega) | (refine contA_of hK ?_; clear hK K'; simp only [go_sem, *]) | (simp only [thenA, inBlockA, go_sem, *]))
   all_goals first | contradiction | skip
   refine ⟨[.agg [iV 5, iV s, iV 0, iV a.number, iV a.letter, iV 0, iV 0]], [some 0], [], ⟨by simp only [resOne, go_sem], trivial⟩, ?_⟩
   simp only [go_sem, zeroPlate, *]
  ·subst k6
   clear k4 k7
   refine spec_body Tryz.func23 rfl (fun E hE => ?_); simp only [go_sem, Tryz.ntmps23]
   repeat' (first | (with_reducible (show runOps ..); first | (refine Qr rfl ?_; try intro K' hK; try simp only [go_sem, *])) | (with_reducible (show Hold ..); first | refine Qh rfl ?_ | refine s_draw rfl Tryz.mixed (by kernel_rfl) ?_ | (refine s_cond rfl ⟨_, rfl, fun hb => ?_, fun hb => ?_⟩ <;> (have hc := hb; try simp only [go_sem] at hc)) | refine s_ret rfl ?_) | (with_reducible (show callA ..); first | (refine call_of [0] [] (s1) (by simp) ?_ ?_ (by simp) (.inl rfl) ?_ ?_ ?_; (focus (simp only [go_sem, *]; done)); (focus (simp only [go_sem, *]; done)); (focus (first | (simp; done) | (simp [go_sem]; done))); (focus (first | (simp; done) | (simp [go_sem]; done))); simp only [go_sem, *]) | (refine call_of [0] [] (s2) (by simp) ?_ ?_ (by simp) (.inl rfl) ?_ ?_ ?_; (focus (simp only [go_sem, *]; done)); (focus (simp only [go_sem, *]; done)); (focus (first | (simp; done) | (simp [go_sem]; done))); (focus (first | (simp; done) | (simp [go_sem]; done))); simp only [go_sem, *]) | (refine call_of [0] [] (sa) (by simp) ?_ ?_ (by simp) (.inl rfl) ?_ ?_ ?_; (focus (simp only [go_sem, *]; done)); (focus (simp only [go_sem, *]; done)); (focus (first | (simp; done) | (simp [go_sem]; done))); (focus (first | (simp; done) | (simp [go_sem]; done))); simp only [go_sem, *])) | ((with_reducible refine Qb ?_ ?_); focus kernel_rfl) | ((with_reducible refine And.intro ?_ ?_); focus omega) | (refine contA_of hK ?_; clear hK K'; simp only [go_sem, *]) | (simp only [thenA, inBlockA, go_sem, *]))
   all_goals first | contradiction | skip
   refine ⟨[.agg [iV 6, iV s, iV 0, iV a.number, iV a.letter, iV 0, iV 0]], [some 0], [], ⟨by simp only [resOne, go_sem], trivial⟩, ?_⟩
   simp only [go_sem, zeroPlate, *]
 ·rw [if_neg k56]
  have k5' : (k == 5) = false := by rw [beq_eq_false_iff_ne]; omega
  have k6' : (k == 6) = false := by rw [beq_eq_false_iff_ne]; omega
  clear k4 k7 k56
  refine spec_body Tryz.func23 rfl (fun E hE => ?_); simp only [go_sem, Tryz.ntmps23]
  repeat' (first | (with_reducible (show runOps ..); first | (refine Qr rfl ?_; try intro K' hK; try simp only [go_sem, *])) | (with_reducible (show Hold ..); first | refine Qh rfl ?_ | refine s_draw rfl Tryz.mixed (by kernel_rfl) ?_ | (refine s_cond rfl ⟨_, rfl, fun hb => ?_, fun hb => ?_⟩ <;> (have hc := hb; try simp only [go_sem] at hc)) | refine s_ret rfl ?_) | (with_reducible (show callA ..); first | (refine call_of [0] [] (s1) (by simp) ?_ ?_ (by simp) (.inl rfl) ?_ ?_ ?_; (focus (simp only [go_sem, *]; done)); (focus (simp only [go_sem, *]; done)); (focus (first | (simp; done) | (simp [go_sem]; done))); (focus (first | (simp; done) | (simp [go_sem]; done))); simp only [go_sem, *]) | (refine call_of [0] [] (s2) (by simp) ?_ ?_ (by simp) (.inl rfl) ?_ ?_ ?_; (focus (simp only [go_sem, *]; done)); (focus (simp only [go_sem, *]; done)); (focus (first | (simp; done) | (simp [go_sem]; done))); (focus (first | (simp; done) | (simp [go_sem]; done))); simp only [go_sem, *])) | ((with_reducible refine Qb ?_ ?_); focus kernel_rfl) | ((with_reducible refine And.intro ?_ ?_); focus omega) | (refine contA_of hK ?_; clear hK K'; simp only [go_sem, *]) | (simp only [thenA, inBlockA, go_sem, *]))
  all_goals first | contradiction | skip
  refine ⟨[.agg [iV k, iV s, iV 0, iV 0, iV 0, iV 0, iV 0]], [some 0], [], ⟨by simp only [resOne, go_sem], trivial⟩, ?_⟩
  simp only [go_sem, zeroPlate, *]
end Go.Abs

namespace Go.Abs
open Go Go.Proofs
set_option maxRecDepth 10000
set_option maxHeartbeats 4000000
theorem look_house_ok {h : House} {hs : List House} {F : House → AV} {o : Nat} {H : Nat → AObj} {K : Cont} (ho : H o = .mapo (hs.map House.key) (hs.map F)) (hw : ∀ k, k ∈ hs → k.Wf) (hh : h.Wf)
  (hk : K (.tup [if h ∈ hs then F h else .list [], bV (decide (h ∈ hs))]) [o] []) : lookupA Tryz.prog 121 (.mp o) h.enc true H K := by
 obtain ⟨et, h1, h2⟩ := moves_type
 unfold lookupA
 rw [h1, keyA_house]
 simp only [h2, ho]
 refine ⟨keyed_place, keyB_place h hh, by simp [Value.cells, Value.oneCell'], fun q hq => ?_, ?_⟩
 ·obtain ⟨k, hk, rfl⟩ := List.mem_map.1 hq; exact keyB_place k (hw k hk)
 ·rw [lookA_key, hasA_key]; simpa [zAV] using hk
theorem sp_Becomes (p : Plan) (c : Change) (h : House) (hp : p.length ≤ 4294967296) (hwf : h.Wf) :
  Spec Tryz.prog 36 [encPlan p, c.enc, h.enc] [] (.tup [.list ((becomesOf p c h).map House.enc), iV (becomesErr p c h)]) [] := by
 obtain ⟨s1, s2⟩ := sp_made p c hp
 by_cases e : errOf p c = 0
 ·have s := s2 e
  have hc : check p = 0 := by
   unfold errOf at e
   split at e <;> assumption
  have v := (check_zero p).1 hc
  have hcan : can p c = 0 := by unfold errOf at e; rw [if_pos hc] at e; exact e
  have f := Fit.of_can hcan
  have hw := v.wf
  clear s1 s2
  by_cases hm : h ∈ housesOf p
  ·have e1 : becomesErr p c h = 0 := by unfold becomesErr; rw [if_pos e, if_pos hm]
   have e2 : becomesOf p c h = sortH (mv p c h) := by unfold becomesOf; rw [if_pos e1]
   have ss := sp_sorted (mv p c h) (mv_nodup f hm) (by have := mv_len f h; omega)
   rw [e1, e2]
   clear e e1 e2
   have hd : decide (h ∈ housesOf p) = true := by simpa using hm
   refine spec_body Tryz.func36 rfl (fun E hE => ?_); simp only [go_sem, Tryz.ntmps36]
   repeat' (first | (with_reducible (show runOps ..); first | (refine Qr rfl ?_; try intro K' hK; try simp only [go_sem, *])) | (with_reducible (show Hold ..); first | refine Qh rfl ?_ | (refine s_cond rfl ⟨_, rfl, fun hb => ?_, fun hb => ?_⟩ <;> (have hc := hb; try simp only [go_sem] at hc)) | refine s_ret rfl ?_) | (with_reducible (show callA ..); first | (refine call_n (s) ?_ ?_ ?_ ?_; (focus (simp only [go_sem, *]; done)); (focus (first | (simp; done) | (simp [go_sem]; done))); (focus (first | (simp; done) | (simp [go_sem]; done))); simp only [go_sem, *])) | ((with_reducible refine Qb ?_ ?_); focus kernel_rfl) | ((with_reducible refine And.intro ?_ ?_); focus omega) | (refine contA_of hK ?_; clear hK K'; simp only [go_sem, *]) | (simp only [thenA, inBlockA, go_sem, *]))
   all_goals first | contradiction | skip
   refine look_house_ok (h := h) (hs := housesOf p) (F := MapV (mv p c)) (by simp only [go_sem]) hw hwf ?_
   rw [if_pos hm, MapV, hd]
   repeat' (first | (with_reducible (show runOps ..); first | (refine Qr rfl ?_; try intro K' hK; try simp only [go_sem, *])) | (with_reducible (show Hold ..); first | refine Qh rfl ?_ | (refine s_cond rfl ⟨_, rfl, fun hb => ?_, fun hb => ?_⟩ <;> (have hc := hb; try simp only [go_sem] at hc)) | refine s_ret rfl ?_) | (with_reducible (show callA ..); first | (refine call_s (ss) ?_ ?_; (focus (simp only [go_sem, *]; done)); simp only [go_sem, *])) | ((with_reducible refine Qb ?_ ?_); focus kernel_rfl) | ((with_reducible refine And.intro ?_ ?_); focus omega) | (refine contA_of hK ?_; clear hK K'; simp only [go_sem, *]) | (simp only [thenA, inBlockA, go_sem, *]))
   all_goals first | contradiction | skip
   (refine ⟨[_, _], [], [], ⟨rfl, rfl, trivial⟩, ?_⟩; simp only [go_sem, *])
  ·have e1 : becomesErr p c h = 3 := by unfold becomesErr; rw [if_pos e, if_neg hm]
   have e2 : becomesOf p c h = [] := by unfold becomesOf; rw [e1]; rfl
   rw [e1, e2]
   clear e e1 e2
   have hd : decide (h ∈ housesOf p) = false := by simpa using hm
   refine spec_body Tryz.func36 rfl (fun E hE => ?_); simp only [go_sem, Tryz.ntmps36]
   repeat' (first | (with_reducible (show runOps ..); first | (refine Qr rfl ?_; try intro K' hK; try simp only [go_sem, *])) | (with_reducible (show Hold ..); first | refine Qh rfl ?_ | (refine s_cond rfl ⟨_, rfl, fun hb => ?_, fun hb => ?_⟩ <;> (have hc := hb; try simp only [go_sem] at hc)) | refine s_ret rfl ?_) | (with_reducible (show callA ..); first | (refine call_n (s) ?_ ?_ ?_ ?_; (focus (simp only [go_sem, *]; done)); (focus (first | (simp; done) | (simp [go_sem]; done))); (focus (first | (simp; done) | (simp [go_sem]; done))); simp only [go_sem, *])) | ((with_reducible refine Qb ?_ ?_); focus kernel_rfl) | ((with_reducible refine And.intro ?_ ?_); focus omega) | (refine contA_of hK ?_; clear hK K'; simp only [go_sem, *]) | (simp only [thenA, inBlockA, go_sem, *]))
   all_goals first | contradiction | skip
   refine look_house_ok (h := h) (hs := housesOf p) (F := MapV (mv p c)) (by simp only [go_sem]) hw hwf ?_
   rw [if_neg hm, hd]
   repeat' (first | (with_reducible (show runOps ..); first | (refine Qr rfl ?_; try intro K' hK; try simp only [go_sem, *])) | (with_reducible (show Hold ..); first | refine Qh rfl ?_ | (refine s_cond rfl ⟨_, rfl, fun hb => ?_, fun hb => ?_⟩ <;> (have hc := hb; try simp only [go_sem] at hc)) | refine s_ret rfl ?_) | ((with_reducible refine Qb ?_ ?_); focus kernel_rfl) | ((with_reducible refine And.intro ?_ ?_); focus omega) | (refine contA_of hK ?_; clear hK K'; simp only [go_sem, *]) | (simp only [thenA, inBlockA, go_sem, *]))
   all_goals first | contradiction | skip
   (refine ⟨[_, _], [], [], ⟨rfl, rfl, trivial⟩, ?_⟩; simp only [go_sem, *])
 ·have s := s1 e
  have e1 : becomesErr p c h = errOf p c := by unfold becomesErr; rw [if_neg e]
  have e2 : becomesOf p c h = [] := by unfold becomesOf; rw [e1, if_neg e]
  have e3 : (errOf p c == 0) = false := by rw [beq_eq_false_iff_ne]; exact e
  rw [e1, e2]
  clear s1 s2 e1 e2
  generalize errOf p c = er at *
  refine spec_body Tryz.func36 rfl (fun E hE => ?_); simp only [go_sem, Tryz.ntmps36]
  repeat' (first | (with_reducible (show runOps ..); first | (refine Qr rfl ?_; try intro K' hK; try simp only [go_sem, *])) | (with_reducible (show Hold ..); first | refine Qh rfl ?_ | (refine s_cond rfl ⟨_, rfl, fun hb => ?_, fun hb => ?_⟩ <;> (have hc := hb; try simp only [go_sem] at hc)) | refine s_ret rfl ?_) | (with_reducible (show callA ..); first | (refine call_s (s) ?_ ?_; (focus (simp only [go_sem, *]; done)); simp only [go_sem, *])) | ((with_reducible refine Qb ?_ ?_); focus kernel_rfl) | ((with_reducible refine And.intro ?_ ?_); focus omega) | (refine contA_of hK ?_; clear hK K'; simp only [go_sem, *]) | (simp only [thenA, inBlockA, go_sem, *]))
  all_goals first | contradiction | skip
  (refine ⟨[_, _], [], [], ⟨rfl, rfl, trivial⟩, ?_⟩; simp only [go_sem, *])
end Go.Abs

namespace Go.Abs
open Go Go.Proofs
set_option maxRecDepth 10000
set_option maxHeartbeats 4000000
def AtH (x : House) (acc : List House) (j : Nat) : Prop := ∀ m, m < j → (acc.getD m default).lt x = true
theorem AtH.next {x : House} {acc : List House} {j : Nat} (h : AtH x acc j) (hx : (acc.getD j default).lt x = true) : AtH x acc (j + 1) := fun m hm => by
 rcases Nat.lt_succ_iff_lt_or_eq.1 hm with h1 | rfl
 ·exact h m h1
 ·exact hx
def SoP (l : List House) (i : Nat) (acc R : List House) : Prop := (l.drop i).foldl (fun out x => insH x out) acc = R ∧ acc.length ≤ i
theorem SoP.next {l : List House} {i : Nat} {acc R : List House} (h : SoP l i acc R) (hi : i < l.length) : SoP l (i + 1) (insH (l.getD i default) acc) R := by
 obtain ⟨h1, h2⟩ := h
 rw [drop_cons hi, List.foldl_cons] at h1
 exact ⟨h1, by have := insH_len (x := l.getD i default) (l := acc); omega⟩
end Go.Abs

namespace Go.Abs
open Go Go.Proofs
set_option maxRecDepth 10000
set_option maxHeartbeats 4000000
def bkt (L : List House) (i s : Nat) : List Plate := ((L.take i).filter (fun h => h.street == (s : Int))).map House.plate
end Go.Abs

namespace Go.Abs
open Go Go.Proofs
set_option maxRecDepth 10000
set_option maxHeartbeats 4000000
def namedErr (p : Plan) (c : Change) : Int :=
 if betw c.kind 1 7 = false then 8
 else if betw c.street 0 (p.length - 1) = false then 3
 else if (c.kind = 4 ∨ c.kind = 7) ∧ betw c.other 0 (p.length - 1) = false then 3
 else if (c.kind = 4 ∨ c.kind = 7) ∧ c.other = c.street then 4 else 0
def namedX (c : Change) : Change := ⟨c.kind, c.street, if c.kind = 4 ∨ c.kind = 7 then c.other else 0, if 5 ≤ c.kind then c.src else zeroPlate, if c.kind = 7 then c.dst else zeroPlate⟩
end Go.Abs

namespace Go.Abs
open Go Go.Proofs
set_option maxRecDepth 10000
set_option maxHeartbeats 4000000
end Go.Abs

namespace Go.Abs
open Go Go.Proofs
set_option maxRecDepth 10000
set_option maxHeartbeats 4000000
end Go.Abs

namespace Go.Abs
open Go Go.Proofs
set_option maxRecDepth 10000
set_option maxHeartbeats 4000000
def mvs (p : Plan) (c : Change) (h : House) : List Move := (mv p c h).map fun z => ⟨h, z⟩
end Go.Abs

namespace Go.Abs
open Go Go.Proofs
set_option maxRecDepth 10000
set_option maxHeartbeats 4000000
end Go.Abs

namespace Go.Abs
open Go Go.Proofs
set_option maxRecDepth 10000
set_option maxHeartbeats 4000000
end Go.Abs

namespace Go.Abs
open Go Go.Proofs
set_option maxRecDepth 10000
set_option maxHeartbeats 4000000
theorem sp_HasPlace (l : List House) (x : House) (h1 : l.length ≤ 4294967296) : Spec Tryz.prog 43 [encHouses l, x.enc] [] (bV (decide (x ∈ l))) [] := by
 refine spec_body Tryz.func43 rfl (fun E hE => ?_); simp only [go_sem, Tryz.ntmps43]
 repeat' (first | (with_reducible (show runOps ..); first | (refine Qr rfl ?_; try intro K' hK; try simp only [go_sem, *])) | (with_reducible (show Hold ..); first | refine Qh rfl ?_ | refine s_draw rfl Tryz.mixed (by kernel_rfl) ?_ | (refine s_cond rfl ⟨_, rfl, fun hb => ?_, fun hb => ?_⟩ <;> (have hc := hb; try simp only [go_sem] at hc)) | refine s_ret rfl ?_) | ((with_reducible refine Qb ?_ ?_); focus kernel_rfl) | ((with_reducible refine And.intro ?_ ?_); focus omega) | (refine contA_of hK ?_; clear hK K'; simp only [go_sem, *]) | (simp only [thenA, inBlockA, go_sem, *]))
 refine s_loop rfl (fun zn zN zenv zAs => ∃ (i : Nat), zn = (l.length) - i ∧ i ≤ (l.length) ∧ (x ∉ l.take i) ∧ zN = 18 ∧ zenv = [(5, iV i), (3, .ptr 0 0), (0, encHouses l)] ∧ zAs = [.box [iV x.street, iV x.plate.number, iV x.plate.letter]]) (l.length) ⟨[some 0], [], _, _, _, (by (simp only [Weak, go_sem, List.map_append, List.map_set, *] <;> (try simp (disch := omega) only [wrap_succ]) <;> (try simp) <;> (try omega))), 0, (by simp), (by simp), (by simp), rfl, rfl, rfl⟩ ?_; rintro _ _ _ _ ⟨i, rfl, hi, hP, rfl, rfl, rfl⟩
 by_cases hi : i < l.length
 ·by_cases q : l.getD i default = x
  ·have q' : decide (l.getD i default = x) = true := decide_eq_true q
   have hm : decide (x ∈ l) = true := decide_eq_true (by rw [← q]; exact getD_mem hi)
   clear q
   repeat' (first | (with_reducible (show runOps ..); first | (refine Qr rfl ?_; try intro K' hK; try simp only [go_sem, *])) | (with_reducible (show Hold ..); first | refine Qh rfl ?_ | refine s_draw rfl Tryz.mixed (by kernel_rfl) ?_ | (refine s_cond rfl ⟨_, rfl, fun hb => ?_, fun hb => ?_⟩ <;> (have hc := hb; try simp only [go_sem] at hc)) | refine s_ret rfl ?_) | ((with_reducible refine Qb ?_ ?_); focus kernel_rfl) | ((with_reducible refine And.intro ?_ ?_); focus omega) | (refine contA_of hK ?_; clear hK K'; simp only [go_sem, *]) | (simp only [thenA, inBlockA, go_sem, *]))
   all_goals first | contradiction | omega | skip
   (refine ⟨[_], [], [], ⟨rfl, trivial⟩, ?_⟩; simp only [go_sem, *])
  ·have q' : decide (l.getD i default = x) = false := decide_eq_false q
   repeat' (first | (with_reducible (show runOps ..); first | (refine Qr rfl ?_; try intro K' hK; try simp only [go_sem, *])) | (with_reducible (show Hold ..); first | refine Qh rfl ?_ | refine s_draw rfl Tryz.mixed (by kernel_rfl) ?_ | (refine s_cond rfl ⟨_, rfl, fun hb => ?_, fun hb => ?_⟩ <;> (have hc := hb; try simp only [go_sem] at hc)) | refine s_ret rfl ?_) | ((with_reducible refine Qb ?_ ?_); focus kernel_rfl) | ((with_reducible refine And.intro ?_ ?_); focus omega) | (refine contA_of hK ?_; clear hK K'; simp only [go_sem, *]) | (simp only [thenA, inBlockA, go_sem, *]))
   all_goals first | contradiction | omega | skip
   refine ⟨_, (by omega), [some 0], [], _, _, _, (by (simp only [Weak, go_sem, List.map_append, List.map_set, *] <;> (try simp (disch := omega) only [wrap_succ]) <;> (try simp) <;> (try omega))), i + 1, rfl, (by omega), (by rw [take_succ_getD hi, List.mem_append, List.mem_singleton]; exact fun h => h.elim hP (fun e => q e.symm)), rfl, rfl, rfl⟩
 ·rw [List.take_of_length_le (by omega)] at hP
  have hm : decide (x ∈ l) = false := decide_eq_false hP
  repeat' (first | (with_reducible (show runOps ..); first | (refine Qr rfl ?_; try intro K' hK; try simp only [go_sem, *])) | (with_reducible (show Hold ..); first | refine Qh rfl ?_ | refine s_draw rfl Tryz.mixed (by kernel_rfl) ?_ | (refine s_cond rfl ⟨_, rfl, fun hb => ?_, fun hb => ?_⟩ <;> (have hc := hb; try simp only [go_sem] at hc)) | refine s_ret rfl ?_) | ((with_reducible refine Qb ?_ ?_); focus kernel_rfl) | ((with_reducible refine And.intro ?_ ?_); focus omega) | (refine contA_of hK ?_; clear hK K'; simp only [go_sem, *]) | (simp only [thenA, inBlockA, go_sem, *]))
  all_goals first | contradiction | omega | skip
  (refine ⟨[_], [], [], ⟨rfl, trivial⟩, ?_⟩; simp only [go_sem, *])
end Go.Abs

namespace Go.Abs
open Go Go.Proofs
set_option maxRecDepth 10000
set_option maxHeartbeats 4000000
theorem spec_map0 {P : Program} {f : FuncId} {args : List AV} {x : Value} {ks : List Value} {xs : List AV} (sp : Spec P f args [] (.tup [.mp 0, .raw x]) [.mapo ks xs]) : Spec P f args [] (.tup [.fmap ks xs, .raw x]) [.dead] := by
 intro w I loc vs hs hl hv
 refine (sp w I loc vs hs hl hv).mono ?_
 rintro e w' ⟨v, I', loc', rfl, hp⟩
 have hsr := hp.sr.freeze [0]
 have hval := hp.val
 cases hval with
 | pure h => cases h
 | tup cs vs' hc hcs =>
  have h0 := hcs 0 (by simp) (by rw [← hc]; simp)
  have h1 := hcs 1 (by simp) (by rw [← hc]; simp)
  have g0 := frzV_VR hp.sr (fs := [0]) (n := 3) h0 (fun o ho => ho)
  have g1 : VR w' (immX (Go.Abs.hs [.mapo ks xs]).obj (· ∈ [0]) loc' I') loc' (.raw x) (vs'[1]'(by rw [← hc]; simp)) := by
   cases h1 with
   | pure h => exact .pure (h.mono (fun _ _ => rfl) (fun b hb => .inl hb))
  refine ⟨_, _, loc', rfl, ⟨hsr.congr rfl (fun t => rfl) (fun o => ?_), .tup [_, _] vs' hc (fun i h h' => ?_), by simp⟩⟩
  ·by_cases ho : 0 = o
   ·subst ho; rfl
   ·simp [Go.Abs.hs, numO, AS.obj, lkO, killL, AS.setO, ho]
  ·match i, h with
   | 0, _ => exact g0
   | 1, _ => exact g1
def WaP (hs rem : List House) (g : House → List House) (h : House) (i : Nat) : Prop := rem.length + i = hs.length ∧ (∀ x, x ∈ rem → x ∈ hs) ∧ ∀ x, x ∈ hs → x ∈ rem ∨ h ∉ g x
theorem sp_Was_go (p : Plan) (c : Change) (h : House) (v : Valid p) (f : Fit p c) (he : errOf p c = 0) (R : AV) (hR : ∀ x, wasOf p c h = some x → R = .tup [x.enc, iV 0]) (hN : wasOf p c h = none → R = .tup [zeroH.enc, iV 3]) :
  Spec Tryz.prog 48 [encPlan p, c.enc, h.enc] [] R [] := by
 have s := spec_map0 ((sp_made p c (by have := v.len; omega)).2 he)
 have hmt : (mapT Tryz.prog 121).isSome = true := by kernel_rfl
 have h0 : WaP (housesOf p) (housesOf p) (mv p c) h 0 := ⟨rfl, fun x hx => hx, fun x hx => .inl hx⟩
 have hml := mv_len_all p c
 have hwu := fun x (hx : x ∈ housesOf p) hm => was_uniq (h := h) v f hx hm
 refine spec_body Tryz.func48 rfl (fun E hE => ?_); simp only [go_sem, Tryz.ntmps48]
 repeat' (first | (with_reducible (show runOps ..); first | (refine Qr rfl ?_; try intro K' hK; try simp only [go_sem, *])) | (with_reducible (show Hold ..); first | refine Qh rfl ?_ | (refine s_cond rfl ⟨_, rfl, fun hb => ?_, fun hb => ?_⟩ <;> (have hc := hb; try simp only [go_sem] at hc)) | refine s_ret rfl ?_) | (with_reducible (show callA ..); first | (refine call_n (s) ?_ ?_ ?_ ?_; (focus (simp only [go_sem, *]; done)); (focus (first | (simp; done) | (simp [go_sem]; done))); (focus (first | (simp; done) | (simp [go_sem]; done))); simp only [go_sem, *])) | ((with_reducible refine Qb ?_ ?_); focus kernel_rfl) | ((with_reducible refine And.intro ?_ ?_); focus omega) | (refine contA_of hK ?_; clear hK K'; simp only [go_sem, *]) | (simp only [thenA, inBlockA, go_sem, *]))
 all_goals first | contradiction | skip
 clear s he f
 refine s_loop rfl (fun zn zN zenv zAs => ∃ (i : Nat) (cur : Option (Value × AV)) (rem : List House), zn = ((housesOf p).length) - i ∧ i ≤ ((housesOf p).length) ∧ (WaP (housesOf p) rem (mv p c) h i) ∧ zN = 34 ∧ zenv = [(5, .ptr 0 0), (6, .ptr 1 0), (23, .ptr 2 0)] ∧ zAs = [.box [iV h.street, iV h.plate.number, iV h.plate.letter], .box [iV 0, iV 0, iV 0], .iter cur (rem.map House.key) (rem.map (MapV (mv p c)))]) ((housesOf p).length) ⟨[some 2, some 3, some 5], [], _, _, _, (by (simp only [Weak, go_sem, List.map_append, List.map_set, *] <;> (try simp (disch := omega) only [wrap_succ]) <;> (try simp) <;> (try omega))), 0, none, housesOf p, (by simp), (by simp), (by exact h0), rfl, rfl, rfl⟩ ?_; rintro _ _ _ _ ⟨i, cur, rem, rfl, hi, hP, rfl, rfl, rfl⟩
 clear h0
 refine s_seq rfl ?_
 refine s_next (o := 2) rfl rfl rfl rfl rfl rfl rfl cur (rem.map House.key) (rem.map (MapV (mv p c))) (by simp only [go_sem]) (by simp only [go_sem]) (show (24 : Nat) < 34 by decide) (show (25 : Nat) < 34 by decide) (fun hk0 _ => ?_) (fun r hr1 hr2 => ?_)
 ·obtain rfl : rem = [] := by simpa using hk0
  have e := hN (was_not (fun x hx => (hP.2.2 x hx).resolve_left (by simp)))
  subst e
  clear hP hR hN
  simp only [go_sem]
  repeat' (first | (with_reducible (show runOps ..); first | (refine Qr rfl ?_; try intro K' hK; try simp only [go_sem, *])) | (with_reducible (show Hold ..); first | refine Qh rfl ?_ | (refine s_cond rfl ⟨_, rfl, fun hb => ?_, fun hb => ?_⟩ <;> (have hc := hb; try simp only [go_sem] at hc)) | refine s_ret rfl ?_) | ((with_reducible refine Qb ?_ ?_); focus kernel_rfl) | ((with_reducible refine And.intro ?_ ?_); focus omega) | (refine contA_of hK ?_; clear hK K'; simp only [go_sem, *]) | (simp only [thenA, inBlockA, go_sem, *]))
  refine ⟨[zeroH.enc, iV 3], [], [], ⟨(by simp only [resOne, go_sem, zeroH]), rfl, trivial⟩, ?_⟩; simp only [go_sem, *]
 ·obtain ⟨hr, hrk, hrx⟩ : ∃ hr : r < rem.length, (rem.map House.key)[r] = (rem[r]).key ∧ (rem.map (MapV (mv p c)))[r] = .list ((mv p c rem[r]).map House.enc) := ⟨by simpa using hr1, by simp, by simp [MapV]⟩
  rw [hrk, hrx, ← map_eraseIdx', ← map_eraseIdx']
  obtain ⟨hlen0, hsub, hnot⟩ := hP
  have hq : (rem[r] :: rem.eraseIdx r).Perm rem := (erase_perm rem r hr).symm
  have hel : (rem.eraseIdx r).length = rem.length - 1 := List.length_eraseIdx_of_lt hr
  clear hrk hrx
  generalize rem.eraseIdx r = rem' at *
  generalize rem[r] = x at *
  have hx := hsub x (hq.mem_iff.1 (by simp))
  have sc := sp_Contains_place (mv p c x) h (by have := hml x; omega)
  by_cases q : h ∈ mv p c x
  ·have e := hR x (hwu x hx q)
   rw [decide_eq_true q] at sc
   subst e
   clear hR hN q hsub hnot hq
   simp only [go_sem]
   repeat' (first | (with_reducible (show runOps ..); first | (refine Qr rfl ?_; try intro K' hK; try simp only [go_sem, *])) | (with_reducible (show Hold ..); first | refine Qh rfl ?_ | (refine s_cond rfl ⟨_, rfl, fun hb => ?_, fun hb => ?_⟩ <;> (have hc := hb; try simp only [go_sem] at hc)) | refine s_ret rfl ?_) | (with_reducible (show callA ..); first | (refine call_s (sc) ?_ ?_; (focus (simp only [go_sem, *]; done)); simp only [go_sem, *])) | ((with_reducible refine Qb ?_ ?_); focus kernel_rfl) | ((with_reducible refine And.intro ?_ ?_); focus omega) | (refine contA_of hK ?_; clear hK K'; simp only [go_sem, *]) | (simp only [thenA, inBlockA, go_sem, *]))
   all_goals first | contradiction | skip
   refine ⟨[x.enc, iV 0], [], [], ⟨(by simp only [resOne, go_sem]), rfl, trivial⟩, ?_⟩; simp only [go_sem, *]
  ·rw [decide_eq_false q] at sc
   have hP2 : WaP (housesOf p) rem' (mv p c) h (i + 1) := ⟨by omega, fun z hz => hsub z (hq.mem_iff.1 (by simp [hz])), fun z hz => (hnot z hz).elim (fun hz => by
    rcases List.mem_cons.1 (hq.mem_iff.2 hz) with rfl | hz
    ·exact .inr q
    ·exact .inl hz) .inr⟩
   clear hR hN q hsub hnot hq
   simp only [go_sem]
   repeat' (first | (with_reducible (show runOps ..); first | (refine Qr rfl ?_; try intro K' hK; try simp only [go_sem, *])) | (with_reducible (show Hold ..); first | refine Qh rfl ?_ | (refine s_cond rfl ⟨_, rfl, fun hb => ?_, fun hb => ?_⟩ <;> (have hc := hb; try simp only [go_sem] at hc)) | refine s_ret rfl ?_) | (with_reducible (show callA ..); first | (refine call_s (sc) ?_ ?_; (focus (simp only [go_sem, *]; done)); simp only [go_sem, *])) | ((with_reducible refine Qb ?_ ?_); focus kernel_rfl) | ((with_reducible refine And.intro ?_ ?_); focus omega) | (refine contA_of hK ?_; clear hK K'; simp only [go_sem, *]) | (simp only [thenA, inBlockA, go_sem, *]))
   all_goals first | contradiction | skip
   refine ⟨_, (by omega), [some 0, some 1, some 2], [], _, _, _, (by (simp only [Weak, go_sem, List.map_append, List.map_set, *] <;> (try simp (disch := omega) only [wrap_succ]) <;> (try simp) <;> (try omega))), i + 1, (some (x.key, .list ((mv p c x).map House.enc))), rem', rfl, (by omega), (by exact hP2), rfl, rfl, rfl⟩
theorem sp_Was (p : Plan) (c : Change) (h : House) (hp : p.length ≤ 4294967296) :
  Spec Tryz.prog 48 [encPlan p, c.enc, h.enc] [] (.tup [(wasH p c h).enc, iV (wasErr p c h)]) [] := by
 rcases @was_case p c h with ⟨e, h1, h2⟩ | ⟨e, m, h1, h2⟩ | ⟨e, h1, h2⟩
 ·rw [h1, h2]
  have s := (sp_made p c hp).1 e
  have q' : (errOf p c != 0) = true := by simpa using e
  clear e h1 h2
  generalize errOf p c = E0 at *
  refine spec_body Tryz.func48 rfl (fun E hE => ?_); simp only [go_sem, Tryz.ntmps48]
  repeat' (first | (with_reducible (show runOps ..); first | (refine Qr rfl ?_; try intro K' hK; try simp only [go_sem, *])) | (with_reducible (show Hold ..); first | refine Qh rfl ?_ | (refine s_cond rfl ⟨_, rfl, fun hb => ?_, fun hb => ?_⟩ <;> (have hc := hb; try simp only [go_sem] at hc)) | refine s_ret rfl ?_) | (with_reducible (show callA ..); first | (refine call_s (s) ?_ ?_; (focus (simp only [go_sem, *]; done)); simp only [go_sem, *])) | ((with_reducible refine Qb ?_ ?_); focus kernel_rfl) | ((with_reducible refine And.intro ?_ ?_); focus omega) | (refine contA_of hK ?_; clear hK K'; simp only [go_sem, *]) | (simp only [thenA, inBlockA, go_sem, *]))
  all_goals first | contradiction | skip
  refine ⟨[zeroH.enc, iV E0], [], [], ⟨(by simp only [resOne, go_sem, zeroH]), rfl, trivial⟩, ?_⟩; simp only [go_sem, *]
 ·obtain ⟨v, f⟩ := err_zero e
  rw [h1, h2]; exact sp_Was_go p c h v f e _ (fun x hx => by rw [m] at hx; cases hx) (fun _ => rfl)
 ·obtain ⟨v, f⟩ := err_zero e
  rw [h1]; exact sp_Was_go p c h v f e _ (fun x hx => by rw [h2] at hx; cases hx; rfl) (fun hx => by rw [h2] at hx; cases hx)
end Go.Abs

namespace Go.Abs
open Go Go.Proofs
set_option maxRecDepth 10000
set_option maxHeartbeats 4000000
theorem zero_wf : zeroH.Wf := ⟨by decide, by decide, by decide⟩
theorem strict_next {l : List House} (h : Strict l) {m : Nat} (hm : m + 1 < l.length) : (l.getD m default).lt (l.getD (m + 1) default) = true := by
 have := List.pairwise_iff_getElem.1 h m (m + 1) (by omega) hm (by omega)
 simpa [List.getD, hm, (show m < l.length by omega)] using this
theorem sp_StreetOnce (nums : List Int) (h : nums.length ≤ 4294967296) : Spec Tryz.prog 11 [encInts nums] [] (bV true) [] := by
 have s1 := sp_NewDice nums
 have s2 := sp_PlanOf (newDice nums) 7 h (by omega)
 have v := planOf_ok (d := newDice nums) (houses := 7) (by omega)
 have hl := planOf_list (newDice nums) 7
 generalize planOf (newDice nums) 7 = P at *
 obtain ⟨p, d1⟩ := P
 simp only at s2 v hl
 have s3 := sp_ChangeOf d1 p (by rw [hl]; exact h) v
 generalize changeOf d1 p = C at *
 obtain ⟨c, d2⟩ := C
 simp only at s3
 have hp3 := v.len
 have s4 := sp_After p c (by omega)
 have sw := sp_walking
 clear hl h
 by_cases e : errOf p c = 0
 ·rw [if_pos e, e] at s4
  have f := (err_zero e).2
  have vq := valid_after v f
  have hq3 := vq.len
  have s5 := sp_wide (afterOf p c) (by omega) false (wide_valid vq)
  have s7 := sp_HousesOf (afterOf p c) (by omega) (fun l hl => by have := (vq.rows l hl).len; omega) (by have := vq.count; omega)
  have s8 := sp_HousesOf p (by omega) (fun l hl => by have := (v.rows l hl).len; omega) (by have := v.count; omega)
  have hcp := v.count
  have hcq := vq.count
  have hwas : ∀ x, x ∈ housesOf (afterOf p c) → ∃ y, wasH p c x = y ∧ wasErr p c x = 0 ∧ y ∈ housesOf p ∧ ∀ z, z ∈ housesOf p → (x ∈ becomesOf p c z ↔ z = y) := fun x hx => by
   obtain ⟨y, h1, h2, h3⟩ := was_after v f hx
   have w0 : wasErr p c x = 0 := by unfold wasErr; rw [if_pos e, h1]; rfl
   refine ⟨y, by unfold wasH; rw [if_pos w0, h1]; rfl, w0, h2, fun z hz => ?_⟩
   have b0 : becomesErr p c z = 0 := by unfold becomesErr; rw [if_pos e, if_pos hz]
   unfold becomesOf
   rw [if_pos b0, mem_sortH]
   exact ⟨fun hm => mv_inj v f hz h2 hm h3, fun hzy => by rw [hzy]; exact h3⟩
  have hbec : ∀ z, z ∈ housesOf p → becomesErr p c z = 0 ∧ (becomesOf p c z).length ≤ 2 ∧ Strict (becomesOf p c z) ∧ ∀ x, x ∈ becomesOf p c z → x ∈ housesOf (afterOf p c) := fun z hz => by
   have b0 : becomesErr p c z = 0 := by unfold becomesErr; rw [if_pos e, if_pos hz]
   have bo : becomesOf p c z = sortH (mv p c z) := by unfold becomesOf; rw [if_pos b0]
   rw [bo]
   refine ⟨b0, Nat.le_trans (nodup_len (strict_sortH _).nodup (fun _ hx => mem_sortH.1 hx)) (mv_len_all p c z), strict_sortH _, fun x hx => ?_⟩
   rw [houses_after v f, mem_sortH]
   exact mem_flatMv.2 ⟨z, hz, mem_sortH.1 hx⟩
  have hwp := v.wf
  have hwq := vq.wf
  have sW := fun x => sp_Was p c x (by omega)
  have sB := fun x hx => sp_Becomes p c x (by omega) (hwp x hx)
  generalize afterOf p c = q at *
  generalize hold : housesOf p = old at *
  generalize hnow : housesOf q = now at *
  clear hold hnow vq f e v
  refine spec_body Tryz.func11 rfl (fun E hE => ?_); simp only [go_sem, Tryz.ntmps11]
  repeat' (first | (with_reducible (show runOps ..); first | (refine Qr rfl ?_; try intro K' hK; try simp only [go_sem, *]) | (refine Qi rfl rfl rfl rfl (fun hb K' hK => ?_) (fun hb => ?_) <;> (have hc := hb; try simp only [go_sem] at hc; simp only [go_sem, *]))) | (with_reducible (show Hold ..); first | refine Qh rfl ?_ | refine s_draw rfl Tryz.mixed (by kernel_rfl) ?_ | (refine s_cond rfl ⟨_, rfl, fun hb => ?_, fun hb => ?_⟩ <;> (have hc := hb; try simp only [go_sem] at hc)) | refine s_ret rfl ?_) | (with_reducible (show callA ..); first | ((first | refine call_s (s4) ?_ ?_ | refine call_s (s5) ?_ ?_); (focus (simp only [go_sem, *]; done)); simp only [go_sem, *]) | (refine call_n (s1) ?_ ?_ ?_ ?_; (focus (simp only [go_sem, *]; done)); (focus (first | (simp; done) | (simp [go_sem]; done))); (focus (first | (simp; done) | (simp [go_sem]; done))); simp only [go_sem, *]) | (refine call_of [0] [] (s2) (by simp) ?_ ?_ (by simp) (.inl rfl) ?_ ?_ ?_; (focus (simp only [go_sem, *]; done)); (focus (simp only [go_sem, *]; done)); (focus (first | (simp; done) | (simp [go_sem]; done))); (focus (first | (simp; done) | (simp [go_sem]; done))); simp only [go_sem, *]) | (refine call_of [0] [] (s3) (by simp) ?_ ?_ (by simp) (.inl rfl) ?_ ?_ ?_; (focus (simp only [go_sem, *]; done)); (focus (simp only [go_sem, *]; done)); (focus (first | (simp; done) | (simp [go_sem]; done))); (focus (first | (simp; done) | (simp [go_sem]; done))); simp only [go_sem, *]) | (refine call_n (s8) ?_ ?_ ?_ ?_; (focus (simp only [go_sem, *]; done)); (focus (first | (simp; done) | (simp [go_sem]; done))); (focus (first | (simp; done) | (simp [go_sem]; done))); simp only [go_sem, *]) | (refine call_n (s7) ?_ ?_ ?_ ?_; (focus (simp only [go_sem, *]; done)); (focus (first | (simp; done) | (simp [go_sem]; done))); (focus (first | (simp; done) | (simp [go_sem]; done))); simp only [go_sem, *])) | ((with_reducible refine Qb ?_ ?_); focus kernel_rfl) | ((with_reducible refine And.intro ?_ ?_); focus omega) | (refine contA_of hK ?_; clear hK K'; simp only [go_sem, *]) | (simp only [thenA, inBlockA, go_sem, *]))
  all_goals first | contradiction | skip
  clear s1 s2 s3 s4 s5 s7 s8
  refine s_loop rfl (fun zn zN zenv zAs => ∃ (i : Nat), zn = (now.length) - i ∧ i ≤ (now.length) ∧ (NoP i) ∧ zN = 181 ∧ zenv = [(14, iV i), (13, encHouses now), (12, encHouses old), (5, .ptr 1 0), (4, .ptr 0 0)] ∧ zAs = [pBox p, cBox c]) (now.length) ⟨[some 1, some 2], [4, 5], _, _, _, (by (simp only [Weak, go_sem, List.map_append, List.map_set, *] <;> (try simp (disch := omega) only [wrap_succ]) <;> (try simp) <;> (try omega))), 0, (by simp), (by simp), (by trivial), rfl, rfl, rfl⟩ ?_; rintro _ _ _ _ ⟨i, rfl, hi, hP, rfl, rfl, rfl⟩
  by_cases hi : i < now.length
  ·have hi3 : (i : Int) < now.length := by omega
   have hx := getD_mem hi
   obtain ⟨y, w1, w2, hy, hz⟩ := hwas _ hx
   have sW1 := sW (now.getD i default)
   rw [w1, w2] at sW1
   have sH := sp_HasPlace old y (by omega)
   rw [decide_eq_true hy] at sH
   clear w1 w2 hwas sW
   repeat' (first | (with_reducible (show runOps ..); first | (refine Qr rfl ?_; try intro K' hK; try simp only [go_sem, *]) | (refine Qi rfl rfl rfl rfl (fun hb K' hK => ?_) (fun hb => ?_) <;> (have hc := hb; try simp only [go_sem] at hc; simp only [go_sem, *]))) | (with_reducible (show Hold ..); first | refine Qh rfl ?_ | refine s_draw rfl Tryz.mixed (by kernel_rfl) ?_ | (refine s_cond rfl ⟨_, rfl, fun hb => ?_, fun hb => ?_⟩ <;> (have hc := hb; try simp only [go_sem] at hc)) | refine s_ret rfl ?_) | (with_reducible (show callA ..); first | ((first | refine call_s (sW1) ?_ ?_ | refine call_s (sH) ?_ ?_); (focus (simp only [go_sem, *]; done)); simp only [go_sem, *])) | ((with_reducible refine Qb ?_ ?_); focus kernel_rfl) | ((with_reducible refine And.intro ?_ ?_); focus omega) | (refine contA_of hK ?_; clear hK K'; simp only [go_sem, *]) | (simp only [thenA, inBlockA, go_sem, *]))
   all_goals first | contradiction | skip
   clear sW1 sH
   refine s_loop rfl (fun zn zN zenv zAs => ∃ (k : Nat), zn = (old.length) - k ∧ k ≤ (old.length) ∧ (NoP k) ∧ zN = 181 ∧ zenv = [(17, iV k), (15, .ptr 2 0), (14, iV i), (13, encHouses now), (12, encHouses old), (5, .ptr 1 0), (4, .ptr 0 0)] ∧ zAs = [pBox p, cBox c, .box [iV y.street, iV y.plate.number, iV y.plate.letter]]) (old.length) ⟨[some 0, some 1, some 2], [], _, _, _, (by (simp only [Weak, go_sem, List.map_append, List.map_set, *] <;> (try simp (disch := omega) only [wrap_succ]) <;> (try simp) <;> (try omega))), 0, (by simp), (by simp), (by trivial), rfl, rfl, rfl⟩ ?_; rintro _ _ _ _ ⟨k, rfl, hk, hK2, rfl, rfl, rfl⟩
   by_cases hk : k < old.length
   ·have hk3 : (k : Int) < old.length := by omega
    have hm := getD_mem hk
    obtain ⟨b0, b1, b2, b3⟩ := hbec _ hm
    have hz1 := hz _ hm
    have sB1 := sB _ hm
    rw [b0] at sB1
    have sH := sp_HasPlace (becomesOf p c (old.getD k default)) (now.getD i default) (by omega)
    clear b0 b1 b2 b3 hbec sB hm hwp hwq hz
    generalize becomesOf p c (old.getD k default) = S at *
    by_cases e : old.getD k default = y
    ·rw [decide_eq_true (hz1.2 e)] at sH
     have e' : decide (old.getD k default = y) = true := decide_eq_true e
     clear hz1 e
     repeat' (first | (with_reducible (show runOps ..); first | (refine Qr rfl ?_; try intro K' hK; try simp only [go_sem, *]) | (refine Qi rfl rfl rfl rfl (fun hb K' hK => ?_) (fun hb => ?_) <;> (have hc := hb; try simp only [go_sem] at hc; simp only [go_sem, *]))) | (with_reducible (show Hold ..); first | refine Qh rfl ?_ | refine s_draw rfl Tryz.mixed (by kernel_rfl) ?_ | (refine s_cond rfl ⟨_, rfl, fun hb => ?_, fun hb => ?_⟩ <;> (have hc := hb; try simp only [go_sem] at hc)) | refine s_ret rfl ?_) | (with_reducible (show callA ..); first | ((first | refine call_s (sB1) ?_ ?_ | refine call_s (sH) ?_ ?_); (focus (simp only [go_sem, *]; done)); simp only [go_sem, *])) | ((with_reducible refine Qb ?_ ?_); focus kernel_rfl) | ((with_reducible refine And.intro ?_ ?_); focus omega) | (refine contA_of hK ?_; clear hK K'; simp only [go_sem, *]) | (simp only [thenA, inBlockA, go_sem, *]))
     all_goals first | contradiction | skip
     refine ⟨_, (by omega), [some 0, some 1, some 2], [], _, _, _, (by (simp only [Weak, go_sem, List.map_append, List.map_set, *] <;> (try simp (disch := omega) only [wrap_succ]) <;> (try simp) <;> (try omega))), k + 1, rfl, (by omega), (by trivial), rfl, rfl, rfl⟩
    ·rw [decide_eq_false (fun h => e (hz1.1 h))] at sH
     have e' : decide (old.getD k default = y) = false := decide_eq_false e
     clear hz1 e
     repeat' (first | (with_reducible (show runOps ..); first | (refine Qr rfl ?_; try intro K' hK; try simp only [go_sem, *]) | (refine Qi rfl rfl rfl rfl (fun hb K' hK => ?_) (fun hb => ?_) <;> (have hc := hb; try simp only [go_sem] at hc; simp only [go_sem, *]))) | (with_reducible (show Hold ..); first | refine Qh rfl ?_ | refine s_draw rfl Tryz.mixed (by kernel_rfl) ?_ | (refine s_cond rfl ⟨_, rfl, fun hb => ?_, fun hb => ?_⟩ <;> (have hc := hb; try simp only [go_sem] at hc)) | refine s_ret rfl ?_) | (with_reducible (show callA ..); first | ((first | refine call_s (sB1) ?_ ?_ | refine call_s (sH) ?_ ?_); (focus (simp only [go_sem, *]; done)); simp only [go_sem, *])) | ((with_reducible refine Qb ?_ ?_); focus kernel_rfl) | ((with_reducible refine And.intro ?_ ?_); focus omega) | (refine contA_of hK ?_; clear hK K'; simp only [go_sem, *]) | (simp only [thenA, inBlockA, go_sem, *]))
     all_goals first | contradiction | skip
     refine ⟨_, (by omega), [some 0, some 1, some 2], [], _, _, _, (by (simp only [Weak, go_sem, List.map_append, List.map_set, *] <;> (try simp (disch := omega) only [wrap_succ]) <;> (try simp) <;> (try omega))), k + 1, rfl, (by omega), (by trivial), rfl, rfl, rfl⟩
   ·have hk3 : ¬ (k : Int) < old.length := by omega
    repeat' (first | (with_reducible (show runOps ..); first | (refine Qr rfl ?_; try intro K' hK; try simp only [go_sem, *]) | (refine Qi rfl rfl rfl rfl (fun hb K' hK => ?_) (fun hb => ?_) <;> (have hc := hb; try simp only [go_sem] at hc; simp only [go_sem, *]))) | (with_reducible (show Hold ..); first | refine Qh rfl ?_ | refine s_draw rfl Tryz.mixed (by kernel_rfl) ?_ | (refine s_cond rfl ⟨_, rfl, fun hb => ?_, fun hb => ?_⟩ <;> (have hc := hb; try simp only [go_sem] at hc)) | refine s_ret rfl ?_) | ((with_reducible refine Qb ?_ ?_); focus kernel_rfl) | ((with_reducible refine And.intro ?_ ?_); focus omega) | (refine contA_of hK ?_; clear hK K'; simp only [go_sem, *]) | (simp only [thenA, inBlockA, go_sem, *]))
    refine ⟨_, (by omega), [some 0, some 1], [], _, _, _, (by (simp only [Weak, go_sem, List.map_append, List.map_set, *] <;> (try simp (disch := omega) only [wrap_succ]) <;> (try simp) <;> (try omega))), i + 1, rfl, (by omega), (by trivial), rfl, rfl, rfl⟩
  ·have hi3 : ¬ (i : Int) < now.length := by omega
   clear hwas
   repeat' (first | (with_reducible (show runOps ..); first | (refine Qr rfl ?_; try intro K' hK; try simp only [go_sem, *]) | (refine Qi rfl rfl rfl rfl (fun hb K' hK => ?_) (fun hb => ?_) <;> (have hc := hb; try simp only [go_sem] at hc; simp only [go_sem, *]))) | (with_reducible (show Hold ..); first | refine Qh rfl ?_ | refine s_draw rfl Tryz.mixed (by kernel_rfl) ?_ | (refine s_cond rfl ⟨_, rfl, fun hb => ?_, fun hb => ?_⟩ <;> (have hc := hb; try simp only [go_sem] at hc)) | refine s_ret rfl ?_) | ((with_reducible refine Qb ?_ ?_); focus kernel_rfl) | ((with_reducible refine And.intro ?_ ?_); focus omega) | (refine contA_of hK ?_; clear hK K'; simp only [go_sem, *]) | (simp only [thenA, inBlockA, go_sem, *]))
   refine s_loop rfl (fun zn zN zenv zAs => ∃ (k : Nat), zn = (old.length) - k ∧ k ≤ (old.length) ∧ (NoP k) ∧ zN = 181 ∧ zenv = [(20, iV k), (13, encHouses now), (12, encHouses old), (5, .ptr 1 0), (4, .ptr 0 0)] ∧ zAs = [pBox p, cBox c]) (old.length) ⟨[some 0, some 1], [], _, _, _, (by (simp only [Weak, go_sem, List.map_append, List.map_set, *] <;> (try simp (disch := omega) only [wrap_succ]) <;> (try simp) <;> (try omega))), 0, (by simp), (by simp), (by trivial), rfl, rfl, rfl⟩ ?_; rintro _ _ _ _ ⟨k, rfl, hk, hK2, rfl, rfl, rfl⟩
   by_cases hk : k < old.length
   ·have hk3 : (k : Int) < old.length := by omega
    have hm := getD_mem hk
    obtain ⟨b0, b1, b2, b3⟩ := hbec _ hm
    have sB1 := sB _ hm
    rw [b0] at sB1
    clear b0 hbec sB hm hwp hwq
    generalize becomesOf p c (old.getD k default) = S at *
    have hS2 : ¬ (S.length : Int) > 2 := by omega
    repeat' (first | (with_reducible (show runOps ..); first | (refine Qr rfl ?_; try intro K' hK; try simp only [go_sem, *]) | (refine Qi rfl rfl rfl rfl (fun hb K' hK => ?_) (fun hb => ?_) <;> (have hc := hb; try simp only [go_sem] at hc; simp only [go_sem, *]))) | (with_reducible (show Hold ..); first | refine Qh rfl ?_ | refine s_draw rfl Tryz.mixed (by kernel_rfl) ?_ | (refine s_cond rfl ⟨_, rfl, fun hb => ?_, fun hb => ?_⟩ <;> (have hc := hb; try simp only [go_sem] at hc)) | refine s_ret rfl ?_) | (with_reducible (show callA ..); first | (refine call_s (sB1) ?_ ?_; (focus (simp only [go_sem, *]; done)); simp only [go_sem, *])) | ((with_reducible refine Qb ?_ ?_); focus kernel_rfl) | ((with_reducible refine And.intro ?_ ?_); focus omega) | (refine contA_of hK ?_; clear hK K'; simp only [go_sem, *]) | (simp only [thenA, inBlockA, go_sem, *]))
    all_goals first | contradiction | skip
    clear sB1
    refine s_loop rfl (fun zn zN zenv zAs => ∃ (m : Nat), zn = (S.length) - m ∧ m ≤ (S.length) ∧ (NoP m) ∧ zN = 181 ∧ zenv = [(23, iV m), (21, encHouses S), (20, iV k), (13, encHouses now), (12, encHouses old), (5, .ptr 1 0), (4, .ptr 0 0)] ∧ zAs = [pBox p, cBox c]) (S.length) ⟨[some 0, some 1], [], _, _, _, (by (simp only [Weak, go_sem, List.map_append, List.map_set, *] <;> (try simp (disch := omega) only [wrap_succ]) <;> (try simp) <;> (try omega))), 0, (by simp), (by simp), (by trivial), rfl, rfl, rfl⟩ ?_; rintro _ _ _ _ ⟨m, rfl, hm, hM, rfl, rfl, rfl⟩
    by_cases hmm : m < S.length
    ·have hm3 : (m : Int) < S.length := by omega
     have sH := sp_HasPlace now (S.getD m default) (by omega)
     rw [decide_eq_true (b3 _ (getD_mem hmm))] at sH
     cases m with
     | zero =>
      have h0 : ¬ ((0 : Nat) : Int) > 0 := by omega
      have h00 : ¬ (0 : Int) > 0 := by omega
      have hv1 : IntKind.i64.wrap 1 = (1 : Int) := wrap_i64 (by omega) (by omega)
      repeat' (first | (with_reducible (show runOps ..); first | (refine Qr rfl ?_; try intro K' hK; try simp only [go_sem, *]) | (refine Qi rfl rfl rfl rfl (fun hb K' hK => ?_) (fun hb => ?_) <;> (have hc := hb; try simp only [go_sem] at hc; simp only [go_sem, *]))) | (with_reducible (show Hold ..); first | refine Qh rfl ?_ | refine s_draw rfl Tryz.mixed (by kernel_rfl) ?_ | (refine s_cond rfl ⟨_, rfl, fun hb => ?_, fun hb => ?_⟩ <;> (have hc := hb; try simp only [go_sem] at hc)) | refine s_ret rfl ?_) | (with_reducible (show callA ..); first | (refine call_s (sH) ?_ ?_; (focus (simp only [go_sem, *]; done)); simp only [go_sem, *])) | ((with_reducible refine Qb ?_ ?_); focus kernel_rfl) | ((with_reducible refine And.intro ?_ ?_); focus omega) | (refine contA_of hK ?_; clear hK K'; simp only [go_sem, *]) | (simp only [thenA, inBlockA, go_sem, *]))
      all_goals first | contradiction | skip
      refine ⟨_, (by omega), [some 0, some 1], [], _, _, _, (by (simp only [Weak, go_sem, List.map_append, List.map_set, *] <;> (try simp (disch := omega) only [wrap_succ]) <;> (try simp) <;> (try omega))), 0 + 1, rfl, (by omega), (by trivial), rfl, rfl, rfl⟩
     | succ m =>
      have h0 : ((m + 1 : Nat) : Int) > 0 := by omega
      have hw : IntKind.i64.wrap (((m + 1 : Nat) : Int) - 1) = (m : Int) := by rw [wrap_i64 (by omega) (by omega)]; omega
      have hm1 : m < S.length := by omega
      have sA := sp_Ahead (S.getD m default) (S.getD (m + 1) default)
      rw [strict_next b2 hmm] at sA
      repeat' (first | (with_reducible (show runOps ..); first | (refine Qr rfl ?_; try intro K' hK; try simp only [go_sem, *]) | (refine Qi rfl rfl rfl rfl (fun hb K' hK => ?_) (fun hb => ?_) <;> (have hc := hb; try simp only [go_sem] at hc; simp only [go_sem, *]))) | (with_reducible (show Hold ..); first | refine Qh rfl ?_ | refine s_draw rfl Tryz.mixed (by kernel_rfl) ?_ | (refine s_cond rfl ⟨_, rfl, fun hb => ?_, fun hb => ?_⟩ <;> (have hc := hb; try simp only [go_sem] at hc)) | refine s_ret rfl ?_) | (with_reducible (show callA ..); first | ((first | refine call_s (sH) ?_ ?_ | refine call_s (sA) ?_ ?_); (focus (simp only [go_sem, *]; done)); simp only [go_sem, *])) | ((with_reducible refine Qb ?_ ?_); focus kernel_rfl) | ((with_reducible refine And.intro ?_ ?_); focus omega) | (refine contA_of hK ?_; clear hK K'; simp only [go_sem, *]) | (simp only [thenA, inBlockA, go_sem, *]))
      all_goals first | contradiction | skip
      refine ⟨_, (by omega), [some 0, some 1], [], _, _, _, (by (simp only [Weak, go_sem, List.map_append, List.map_set, *] <;> (try simp (disch := omega) only [wrap_succ]) <;> (try simp) <;> (try omega))), (m + 1) + 1, rfl, (by omega), (by trivial), rfl, rfl, rfl⟩
    ·have hm3 : ¬ (m : Int) < S.length := by omega
     repeat' (first | (with_reducible (show runOps ..); first | (refine Qr rfl ?_; try intro K' hK; try simp only [go_sem, *]) | (refine Qi rfl rfl rfl rfl (fun hb K' hK => ?_) (fun hb => ?_) <;> (have hc := hb; try simp only [go_sem] at hc; simp only [go_sem, *]))) | (with_reducible (show Hold ..); first | refine Qh rfl ?_ | refine s_draw rfl Tryz.mixed (by kernel_rfl) ?_ | (refine s_cond rfl ⟨_, rfl, fun hb => ?_, fun hb => ?_⟩ <;> (have hc := hb; try simp only [go_sem] at hc)) | refine s_ret rfl ?_) | ((with_reducible refine Qb ?_ ?_); focus kernel_rfl) | ((with_reducible refine And.intro ?_ ?_); focus omega) | (refine contA_of hK ?_; clear hK K'; simp only [go_sem, *]) | (simp only [thenA, inBlockA, go_sem, *]))
     refine ⟨_, (by omega), [some 0, some 1], [], _, _, _, (by (simp only [Weak, go_sem, List.map_append, List.map_set, *] <;> (try simp (disch := omega) only [wrap_succ]) <;> (try simp) <;> (try omega))), k + 1, rfl, (by omega), (by trivial), rfl, rfl, rfl⟩
   ·have hk3 : ¬ (k : Int) < old.length := by omega
    repeat' (first | (with_reducible (show runOps ..); first | (refine Qr rfl ?_; try intro K' hK; try simp only [go_sem, *]) | (refine Qi rfl rfl rfl rfl (fun hb K' hK => ?_) (fun hb => ?_) <;> (have hc := hb; try simp only [go_sem] at hc; simp only [go_sem, *]))) | (with_reducible (show Hold ..); first | refine Qh rfl ?_ | refine s_draw rfl Tryz.mixed (by kernel_rfl) ?_ | (refine s_cond rfl ⟨_, rfl, fun hb => ?_, fun hb => ?_⟩ <;> (have hc := hb; try simp only [go_sem] at hc)) | refine s_ret rfl ?_) | (with_reducible (show callA ..); first | (refine call_s (sw) ?_ ?_; (focus (simp only [go_sem, *]; done)); simp only [go_sem, *])) | ((with_reducible refine Qb ?_ ?_); focus kernel_rfl) | ((with_reducible refine And.intro ?_ ?_); focus omega) | (refine contA_of hK ?_; clear hK K'; simp only [go_sem, *]) | (simp only [thenA, inBlockA, go_sem, *]))
    (refine ⟨[_], [], [], ⟨rfl, trivial⟩, ?_⟩; simp only [go_sem, *])
 ·rw [if_neg e] at s4
  have e2 : (errOf p c != 0) = true := by simpa using e
  have sB := sp_Becomes p c zeroH (by omega) zero_wf
  have sW := sp_Was p c zeroH (by omega)
  have b1 : becomesErr p c zeroH = errOf p c := by unfold becomesErr; rw [if_neg e]
  have b2 : wasErr p c zeroH = errOf p c := by unfold wasErr; rw [if_neg e]
  rw [b1] at sB
  rw [b2] at sW
  clear b1 b2 e
  generalize becomesOf p c zeroH = B at *
  generalize wasH p c zeroH = Wh at *
  generalize errOf p c = er at *
  simp only [zeroH] at sB sW
  refine spec_body Tryz.func11 rfl (fun E hE => ?_); simp only [go_sem, Tryz.ntmps11]
  repeat' (first | (with_reducible (show runOps ..); first | (refine Qr rfl ?_; try intro K' hK; try simp only [go_sem, *]) | (refine Qi rfl rfl rfl rfl (fun hb K' hK => ?_) (fun hb => ?_) <;> (have hc := hb; try simp only [go_sem] at hc; simp only [go_sem, *]))) | (with_reducible (show Hold ..); first | refine Qh rfl ?_ | refine s_draw rfl Tryz.mixed (by kernel_rfl) ?_ | (refine s_cond rfl ⟨_, rfl, fun hb => ?_, fun hb => ?_⟩ <;> (have hc := hb; try simp only [go_sem] at hc)) | refine s_ret rfl ?_) | (with_reducible (show callA ..); first | ((first | refine call_s (s4) ?_ ?_ | refine call_s (sB) ?_ ?_ | refine call_s (sW) ?_ ?_ | refine call_s (sw) ?_ ?_); (focus (simp only [go_sem, *]; done)); simp only [go_sem, *]) | (refine call_n (s1) ?_ ?_ ?_ ?_; (focus (simp only [go_sem, *]; done)); (focus (first | (simp; done) | (simp [go_sem]; done))); (focus (first | (simp; done) | (simp [go_sem]; done))); simp only [go_sem, *]) | (refine call_of [0] [] (s2) (by simp) ?_ ?_ (by simp) (.inl rfl) ?_ ?_ ?_; (focus (simp only [go_sem, *]; done)); (focus (simp only [go_sem, *]; done)); (focus (first | (simp; done) | (simp [go_sem]; done))); (focus (first | (simp; done) | (simp [go_sem]; done))); simp only [go_sem, *]) | (refine call_of [0] [] (s3) (by simp) ?_ ?_ (by simp) (.inl rfl) ?_ ?_ ?_; (focus (simp only [go_sem, *]; done)); (focus (simp only [go_sem, *]; done)); (focus (first | (simp; done) | (simp [go_sem]; done))); (focus (first | (simp; done) | (simp [go_sem]; done))); simp only [go_sem, *])) | ((with_reducible refine Qb ?_ ?_); focus kernel_rfl) | ((with_reducible refine And.intro ?_ ?_); focus omega) | (refine contA_of hK ?_; clear hK K'; simp only [go_sem, *]) | (simp only [thenA, inBlockA, go_sem, *]))
  all_goals first | contradiction | skip
  (refine ⟨[_], [], [], ⟨rfl, trivial⟩, ?_⟩; simp only [go_sem, *])
end Go.Abs

