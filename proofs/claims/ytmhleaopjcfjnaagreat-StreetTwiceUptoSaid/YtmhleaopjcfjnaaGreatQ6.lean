/-
  WHAT THE PROOF STANDS ON, PART 6: contracts of the program's functions and the logic that they are proved in. No condition.
-/
import Derived.Test.YtmhleaopjcfjnaaGreatQ5
set_option linter.unusedVariables false
set_option linter.unusedSimpArgs false
set_option linter.unusedSectionVars false
namespace Go.Abs
open Go Go.Proofs
set_option maxRecDepth 10000
set_option maxHeartbeats 4000000
theorem x_guessErr : guessErr townX planY = 0 := by kernel_rfl
theorem sp_walking : Spec Tryz.prog 20 [] [] (bV true) [] := by
  have sAfter := sp_After townX joinX (by decide)
  rw [if_pos x_err, x_after, x_err] at sAfter
  have sTruths := sp_Truths_ok taleX x_story
  rw [x_ways] at sTruths
  have sWhere := sp_Where_ok taleX (atX 0 1) x_whereErr (by rw [x_whereL]; decide) (by rw [x_whereL]; decide)
  rw [x_where] at sWhere
  have sAsk := sp_Ask_ok taleX x_story (.tup [(atX 0 1).enc, iV (1 : Nat), iV 0]) (by rw [x_ask]; rfl)
  have sGuess := sp_Guess townX planY (by decide) (by decide)
  rw [if_pos x_guessErr, x_guess, x_guessErr] at sGuess
  have sRow1 := sp_row [1, 2, 4, 5, 7, 8] (by decide)
  have sRow2 := sp_row [1, 2, 3, 4, 5, 7, 8] (by decide)
  have sPlan1 := sp_plan (rowX [1, 2, 4, 5, 7, 8]) [] []
  have sPlan2 := sp_plan (rowX [1, 2, 3, 4, 5, 7, 8]) [] []
  have sEq1 := sp_EqPlans planX planX (by decide) (by decide)
  have sEq2 := sp_EqLists [[0, 0], [1, 0]] [[0, 0], [1, 0]] (by decide) (by decide)
  have sEq3 := sp_EqPlaces [atX 0 2, atX 0 5] [atX 0 2, atX 0 5] (by decide)
  have sEq4 := sp_EqChanges [joinX, fellX] [joinX, fellX] (by decide)
  have sJoin := sp_join 1 0
  have sAt1 := sp_lat 0 1
  have sAt2 := sp_lat 0 2
  have sAt5 := sp_lat 0 5
  have sOne := sp_one 6 0 3
  simp only [planX, planY, joinX, fellX, zeroPlate, atX, decide_true, optL, Option.getD_some] at *
  refine spec_body Tryz.func20 rfl (fun E hE => ?_); simp only [go_sem, Tryz.ntmps20]
  repeat' (first | (with_reducible (show runOps _ _ _ _ _ _); first | (refine Qo fun K' hK => ?_; simp only [go_sem, *]) | refine run_nil ?_ | (refine Qy rfl rfl rfl fun K' hK => ?_; simp only [go_sem, *]) | (refine Qx rfl rfl rfl ?_; simp only [go_sem, *]) | (refine Qu rfl rfl rfl ?_; simp only [go_sem, *]) | (refine Qi rfl rfl rfl (fun hb K' hK => ?_) (fun hb => ?_) <;> (have hc := hb; try simp only [go_sem] at hc; simp only [go_sem, *]))) | (with_reducible (show Hold _ _ _ _ _); first | refine s_seq rfl ?_ | refine s_block rfl ?_ | refine s_region rfl ?_ | refine s_skip rfl ?_ | refine s_exit rfl ?_ | refine s_label rfl ?_ | (refine s_cond rfl ⟨_, rfl, fun hb => ?_, fun hb => ?_⟩ <;> (have hc := hb; try simp only [go_sem] at hc)) | refine s_ret rfl ?_) | (with_reducible (show callA _ _ _ _ _ _); first | (refine call_s (sp_town) ?_ ?_; (focus (simp only [go_sem, *]; done)); simp only [go_sem, *]) | (refine call_s (sJoin) ?_ ?_; (focus (simp only [go_sem, *]; done)); simp only [go_sem, *]) | (refine call_s (sAfter) ?_ ?_; (focus (simp only [go_sem, *]; done)); simp only [go_sem, *]) | (refine call_fz (sp_tale) ?_ rfl ?_ ?_ ?_ ?_; (focus (simp only [go_sem, *]; done)); (focus (simp only [go_sem, *]; done)); (focus (first | (simp; done) | (simp [go_sem]; done))); (focus (first | (simp; done) | (simp [go_sem]; done))); simp only [go_sem, deads, *]) | (refine call_s (sTruths) ?_ ?_; (focus (simp only [go_sem, *]; done)); simp only [go_sem, *]) | (refine call_s (sAt1) ?_ ?_; (focus (simp only [go_sem, *]; done)); simp only [go_sem, *]) | (refine call_s (sWhere) ?_ ?_; (focus (simp only [go_sem, *]; done)); simp only [go_sem, *]) | (refine call_s (sAsk) ?_ ?_; (focus (simp only [go_sem, *]; done)); simp only [go_sem, *]) | (refine call_fz (sRow1) ?_ rfl ?_ ?_ ?_ ?_; (focus (simp only [go_sem, *]; done)); (focus (simp only [go_sem, *]; done)); (focus (first | (simp; done) | (simp [go_sem]; done))); (focus (first | (simp; done) | (simp [go_sem]; done))); simp only [go_sem, deads, *]) | (refine call_fz (sPlan1) ?_ rfl ?_ ?_ ?_ ?_; (focus (simp only [go_sem, *]; done)); (focus (simp only [go_sem, *]; done)); (focus (first | (simp; done) | (simp [go_sem]; done))); (focus (first | (simp; done) | (simp [go_sem]; done))); simp only [go_sem, deads, *]) | (refine call_fz (sGuess) ?_ rfl ?_ ?_ ?_ ?_; (focus (simp only [go_sem, *]; done)); (focus (simp only [go_sem, *]; done)); (focus (first | (simp; done) | (simp [go_sem]; done))); (focus (first | (simp; done) | (simp [go_sem]; done))); simp only [go_sem, deads, *])) | (with_reducible (show indepB _ _ = true ∧ _); refine And.intro (by kernel_rfl) ?_) | (with_reducible (show _ ∧ _); refine And.intro (by omega) ?_) | (refine contA_of hK ?_; clear hK K'; simp only [go_sem, *]) | (simp only [thenA, inBlockA, go_sem, *]))
  all_goals first | contradiction | skip
  repeat' (first | (with_reducible (show runOps _ _ _ _ _ _); first | (refine Qo fun K' hK => ?_; simp only [go_sem, *]) | refine run_nil ?_ | (refine Qy rfl rfl rfl fun K' hK => ?_; simp only [go_sem, *]) | (refine Qx rfl rfl rfl ?_; simp only [go_sem, *]) | (refine Qu rfl rfl rfl ?_; simp only [go_sem, *]) | (refine Qi rfl rfl rfl (fun hb K' hK => ?_) (fun hb => ?_) <;> (have hc := hb; try simp only [go_sem] at hc; simp only [go_sem, *]))) | (with_reducible (show Hold _ _ _ _ _); first | refine s_seq rfl ?_ | refine s_block rfl ?_ | refine s_region rfl ?_ | refine s_draw rfl Tryz.mixed (by kernel_rfl) ?_ | refine s_skip rfl ?_ | refine s_exit rfl ?_ | refine s_label rfl ?_ | (refine s_cond rfl ⟨_, rfl, fun hb => ?_, fun hb => ?_⟩ <;> (have hc := hb; try simp only [go_sem] at hc)) | refine s_ret rfl ?_) | (with_reducible (show callA _ _ _ _ _ _); first | (refine call_s (sJoin) ?_ ?_; (focus (simp only [go_sem, *]; done)); simp only [go_sem, *]) | (refine call_s (sOne) ?_ ?_; (focus (simp only [go_sem, *]; done)); simp only [go_sem, *]) | (refine call_s (sAt1) ?_ ?_; (focus (simp only [go_sem, *]; done)); simp only [go_sem, *]) | (refine call_s (sAt2) ?_ ?_; (focus (simp only [go_sem, *]; done)); simp only [go_sem, *]) | (refine call_s (sAt5) ?_ ?_; (focus (simp only [go_sem, *]; done)); simp only [go_sem, *]) | (refine call_fz (sRow2) ?_ rfl ?_ ?_ ?_ ?_; (focus (simp only [go_sem, *]; done)); (focus (simp only [go_sem, *]; done)); (focus (first | (simp; done) | (simp [go_sem]; done))); (focus (first | (simp; done) | (simp [go_sem]; done))); simp only [go_sem, deads, *]) | (refine call_fz (sPlan2) ?_ rfl ?_ ?_ ?_ ?_; (focus (simp only [go_sem, *]; done)); (focus (simp only [go_sem, *]; done)); (focus (first | (simp; done) | (simp [go_sem]; done))); (focus (first | (simp; done) | (simp [go_sem]; done))); simp only [go_sem, deads, *]) | (refine call_fz (sEq1) ?_ rfl ?_ ?_ ?_ ?_; (focus (simp only [go_sem, *]; done)); (focus (simp only [go_sem, *]; done)); (focus (first | (simp; done) | (simp [go_sem]; done))); (focus (first | (simp; done) | (simp [go_sem]; done))); simp only [go_sem, deads, *]) | (refine call_fz (sEq2) ?_ rfl ?_ ?_ ?_ ?_; (focus (simp only [go_sem, *]; done)); (focus (simp only [go_sem, *]; done)); (focus (first | (simp; done) | (simp [go_sem]; done))); (focus (first | (simp; done) | (simp [go_sem]; done))); simp only [go_sem, deads, *]) | (refine call_fz (sEq3) ?_ rfl ?_ ?_ ?_ ?_; (focus (simp only [go_sem, *]; done)); (focus (simp only [go_sem, *]; done)); (focus (first | (simp; done) | (simp [go_sem]; done))); (focus (first | (simp; done) | (simp [go_sem]; done))); simp only [go_sem, deads, *]) | (refine call_fz (sEq4) ?_ rfl ?_ ?_ ?_ ?_; (focus (simp only [go_sem, *]; done)); (focus (simp only [go_sem, *]; done)); (focus (first | (simp; done) | (simp [go_sem]; done))); (focus (first | (simp; done) | (simp [go_sem]; done))); simp only [go_sem, deads, *])) | (with_reducible (show indepB _ _ = true ∧ _); refine And.intro (by kernel_rfl) ?_) | (with_reducible (show _ ∧ _); refine And.intro (by omega) ?_) | (refine contA_of hK ?_; clear hK K'; simp only [go_sem, *]) | (simp only [thenA, inBlockA, go_sem, *]))
  (refine ⟨[_], [], [], ⟨rfl, trivial⟩, ?_⟩; simp only [go_sem, *])
end Go.Abs

namespace Go.Abs
open Go Go.Proofs
set_option maxRecDepth 10000
set_option maxHeartbeats 4000000
def wideL (p : Plan) : Bool := p.any fun l => decide (20 < l.length)
def wideB (p : Plan) : Bool := decide (20 < p.length) || wideL p
end Go.Abs

namespace Go.Abs
open Go Go.Proofs
set_option maxRecDepth 10000
set_option maxHeartbeats 4000000
attribute [go_sem] diceBox Nat.le_refl Nat.sub_zero Int.reduceGT Nat.reduceGT Int.reduceGE
@[go_sem ↓] theorem intA_xor (a b : Int) (K : Cont) : intA .xor .u64 a b K = K (uV (xor64 a b)) [] [] := rfl
@[go_sem ↓] theorem shiftA_shl (a b : Int) (K : Cont) : shiftA .shl .u64 a b K = (0 ≤ b ∧ K (uV (shl64 a b.toNat)) [] []) := rfl
@[go_sem ↓] theorem shiftA_shr (a b : Int) (K : Cont) : shiftA .shr .u64 a b K = (0 ≤ b ∧ K (uV (shr64 a b.toNat)) [] []) := rfl
@[go_sem] theorem fold_mix1 (s : Int) : xor64 s (shl64 s 13) = mix1 s := rfl
@[go_sem] theorem fold_mix2 (s : Int) : xor64 s (shr64 s 7) = mix2 s := rfl
@[go_sem] theorem fold_mix3 (s : Int) : xor64 s (shl64 s 17) = mix3 s := rfl
@[go_sem] theorem fold_mixed (s : Int) : mix3 (mix2 (mix1 s)) = mixed3 s := rfl
@[go_sem] theorem fold_rawM (n : Int) : IntKind.u64.wrap (xor64 n (shr64 n 30) * 10723151780598845931) = rawM n := rfl
theorem sp_raw (d : Dice) (h : d.list.length ≤ 4294967296) : Spec Tryz.prog 95 [.ptr 0 0] [diceBox d] (uV (rawN d)) [diceBox (rawD d)] := by
  have e2 : (rawD d).list = d.list := rfl
  have e4 : (rawD d).seed = rawS d := rfl
  have e6 : rawN d = xor64 (rawM (rawS d)) (shr64 (rawM (rawS d)) 31) := rfl
  by_cases q : d.at_ < d.list.length
  · have q2 : ((d.at_ : Int) < (d.list.length : Int)) := by omega
    have e1 : rawS d = IntKind.u64.wrap (mixed3 d.seed + IntKind.u64.wrap (IntKind.u64.wrap (d.list.getD d.at_ default) * 13787848793156543929)) := by unfold rawS; rw [if_pos q]
    have e3 : (rawD d).at_ = d.at_ + 1 := by unfold rawD; simp only; rw [if_pos q]
    have e5 : IntKind.i64.wrap ((d.at_ : Int) + 1) = ((d.at_ + 1 : Nat) : Int) := wrap_succ (by omega)
    generalize rawD d = d' at *
    refine spec_body Tryz.func95 rfl (fun E hE => ?_); simp only [go_sem, Tryz.ntmps95]
    repeat' (first | (with_reducible (show runOps _ _ _ _ _ _); first | (refine Qo fun K' hK => ?_; simp only [go_sem, *]) | refine run_nil ?_ | (refine Qy rfl rfl rfl fun K' hK => ?_; simp only [go_sem, *]) | (refine Qx rfl rfl rfl ?_; simp only [go_sem, *]) | (refine Qu rfl rfl rfl ?_; simp only [go_sem, *]) | (refine Qi rfl rfl rfl (fun hb K' hK => ?_) (fun hb => ?_) <;> (have hc := hb; try simp only [go_sem] at hc; simp only [go_sem, *]))) | (with_reducible (show Hold _ _ _ _ _); first | refine s_seq rfl ?_ | refine s_block rfl ?_ | refine s_region rfl ?_ | refine s_draw rfl Tryz.mixed (by kernel_rfl) ?_ | refine s_skip rfl ?_ | refine s_exit rfl ?_ | refine s_label rfl ?_ | (refine s_cond rfl ⟨_, rfl, fun hb => ?_, fun hb => ?_⟩ <;> (have hc := hb; try simp only [go_sem] at hc)) | refine s_ret rfl ?_) | (with_reducible (show indepB _ _ = true ∧ _); refine And.intro (by kernel_rfl) ?_) | (with_reducible (show _ ∧ _); refine And.intro (by omega) ?_) | (refine contA_of hK ?_; clear hK K'; simp only [go_sem, *]) | (simp only [thenA, inBlockA, go_sem, *]))
    all_goals first | contradiction | omega | skip
    refine ⟨[_], [some 0], [], ⟨rfl, trivial⟩, ?_⟩
    simp only [go_sem, *]
  · have q2 : ¬ ((d.at_ : Int) < (d.list.length : Int)) := by omega
    have e1 : rawS d = mixed3 d.seed := by unfold rawS; rw [if_neg q]
    have e3 : (rawD d).at_ = d.at_ := by unfold rawD; simp only; rw [if_neg q]
    generalize rawD d = d' at *
    refine spec_body Tryz.func95 rfl (fun E hE => ?_); simp only [go_sem, Tryz.ntmps95]
    repeat' (first | (with_reducible (show runOps _ _ _ _ _ _); first | (refine Qo fun K' hK => ?_; simp only [go_sem, *]) | refine run_nil ?_ | (refine Qy rfl rfl rfl fun K' hK => ?_; simp only [go_sem, *]) | (refine Qx rfl rfl rfl ?_; simp only [go_sem, *]) | (refine Qu rfl rfl rfl ?_; simp only [go_sem, *]) | (refine Qi rfl rfl rfl (fun hb K' hK => ?_) (fun hb => ?_) <;> (have hc := hb; try simp only [go_sem] at hc; simp only [go_sem, *]))) | (with_reducible (show Hold _ _ _ _ _); first | refine s_seq rfl ?_ | refine s_block rfl ?_ | refine s_region rfl ?_ | refine s_draw rfl Tryz.mixed (by kernel_rfl) ?_ | refine s_skip rfl ?_ | refine s_exit rfl ?_ | refine s_label rfl ?_ | (refine s_cond rfl ⟨_, rfl, fun hb => ?_, fun hb => ?_⟩ <;> (have hc := hb; try simp only [go_sem] at hc)) | refine s_ret rfl ?_) | (with_reducible (show indepB _ _ = true ∧ _); refine And.intro (by kernel_rfl) ?_) | (with_reducible (show _ ∧ _); refine And.intro (by omega) ?_) | (refine contA_of hK ?_; clear hK K'; simp only [go_sem, *]) | (simp only [thenA, inBlockA, go_sem, *]))
    all_goals first | contradiction | omega | skip
    refine ⟨[_], [some 0], [], ⟨rfl, trivial⟩, ?_⟩
    simp only [go_sem, *]
theorem toD_list (n : Int) (d : Dice) : (toD n d).list = d.list := by unfold toD; split <;> rfl
theorem sp_To (d : Dice) (n : Int) (h : d.list.length ≤ 4294967296) (hn : n ≤ 4294967296) : Spec Tryz.prog 30 [.ptr 0 0, iV n] [diceBox d] (iV (toN n d)) [diceBox (toD n d)] := by
  by_cases q : n < 1
  · have e1 : toN n d = 0 := by unfold toN; rw [if_pos q]
    have e2 : toD n d = d := by unfold toD; rw [if_pos q]
    refine spec_body Tryz.func30 rfl (fun E hE => ?_); simp only [go_sem, Tryz.ntmps30]
    repeat' (first | (with_reducible (show runOps _ _ _ _ _ _); first | (refine Qo fun K' hK => ?_; simp only [go_sem, *]) | refine run_nil ?_ | (refine Qy rfl rfl rfl fun K' hK => ?_; simp only [go_sem, *]) | (refine Qx rfl rfl rfl ?_; simp only [go_sem, *]) | (refine Qu rfl rfl rfl ?_; simp only [go_sem, *]) | (refine Qi rfl rfl rfl (fun hb K' hK => ?_) (fun hb => ?_) <;> (have hc := hb; try simp only [go_sem] at hc; simp only [go_sem, *]))) | (with_reducible (show Hold _ _ _ _ _); first | refine s_seq rfl ?_ | refine s_block rfl ?_ | refine s_region rfl ?_ | refine s_draw rfl Tryz.mixed (by kernel_rfl) ?_ | refine s_skip rfl ?_ | refine s_exit rfl ?_ | refine s_label rfl ?_ | (refine s_cond rfl ⟨_, rfl, fun hb => ?_, fun hb => ?_⟩ <;> (have hc := hb; try simp only [go_sem] at hc)) | refine s_ret rfl ?_) | (with_reducible (show indepB _ _ = true ∧ _); refine And.intro (by kernel_rfl) ?_) | (with_reducible (show _ ∧ _); refine And.intro (by omega) ?_) | (refine contA_of hK ?_; clear hK K'; simp only [go_sem, *]) | (simp only [thenA, inBlockA, go_sem, *]))
    all_goals first | contradiction | omega | skip
    refine ⟨[_], [some 0], [], ⟨rfl, trivial⟩, ?_⟩
    simp only [go_sem, *]
  · have e1 : toN n d = (shr64 (rawN d) 16).tmod (n + 1) := by unfold toN; rw [if_neg q]
    have e2 : toD n d = rawD d := by unfold toD; rw [if_neg q]
    have hr := toN_range n d
    rw [e1] at hr
    have e3 : IntKind.i64.wrap (n + 1) = n + 1 := wrap_i64 (by omega) (by omega)
    have e4 : IntKind.u64.wrap (n + 1) = n + 1 := by rw [IntKind.wrap_u64]; omega
    have e5 : IntKind.i64.wrap ((shr64 (rawN d) 16).tmod (n + 1)) = (shr64 (rawN d) 16).tmod (n + 1) := wrap_i64 (by omega) (by omega)
    have e6 : ¬ n + 1 = 0 := by omega
    have sr := sp_raw d h
    generalize rawN d = r at *
    generalize rawD d = d' at *
    clear hr
    refine spec_body Tryz.func30 rfl (fun E hE => ?_); simp only [go_sem, Tryz.ntmps30]
    repeat' (first | (with_reducible (show runOps _ _ _ _ _ _); first | (refine Qo fun K' hK => ?_; simp only [go_sem, *]) | refine run_nil ?_ | (refine Qy rfl rfl rfl fun K' hK => ?_; simp only [go_sem, *]) | (refine Qx rfl rfl rfl ?_; simp only [go_sem, *]) | (refine Qu rfl rfl rfl ?_; simp only [go_sem, *]) | (refine Qi rfl rfl rfl (fun hb K' hK => ?_) (fun hb => ?_) <;> (have hc := hb; try simp only [go_sem] at hc; simp only [go_sem, *]))) | (with_reducible (show Hold _ _ _ _ _); first | refine s_seq rfl ?_ | refine s_block rfl ?_ | refine s_region rfl ?_ | refine s_draw rfl Tryz.mixed (by kernel_rfl) ?_ | refine s_skip rfl ?_ | refine s_exit rfl ?_ | refine s_label rfl ?_ | (refine s_cond rfl ⟨_, rfl, fun hb => ?_, fun hb => ?_⟩ <;> (have hc := hb; try simp only [go_sem] at hc)) | refine s_ret rfl ?_) | (with_reducible (show callA _ _ _ _ _ _); first | (refine call_of [0] [] (sr) (by simp) ?_ ?_ (by simp) (.inl rfl) ?_ ?_ ?_; (focus (simp only [go_sem, *]; done)); (focus (simp only [go_sem, *]; done)); (focus (first | (simp; done) | (simp [go_sem]; done))); (focus (first | (simp; done) | (simp [go_sem]; done))); simp only [go_sem, *])) | (with_reducible (show indepB _ _ = true ∧ _); refine And.intro (by kernel_rfl) ?_) | (with_reducible (show _ ∧ _); refine And.intro (by omega) ?_) | (refine contA_of hK ?_; clear hK K'; simp only [go_sem, *]) | (simp only [thenA, inBlockA, go_sem, *]))
    all_goals first | contradiction | omega | skip
    refine ⟨[_], [some 0], [], ⟨rfl, trivial⟩, ?_⟩
    simp only [go_sem, *]
theorem sp_From (d : Dice) (lo hi : Int) (h : d.list.length ≤ 4294967296) (hl : 0 ≤ lo ∧ lo ≤ hi) (hh : hi ≤ 4294967296) : Spec Tryz.prog 83 [.ptr 0 0, iV lo, iV hi] [diceBox d] (iV (fromN lo hi d)) [diceBox (fromD lo hi d)] := by
  have st := sp_To d (hi - lo) h (by omega)
  have hf := fromN_le hl.2 d
  have e1 : IntKind.i64.wrap (hi - lo) = hi - lo := wrap_i64 (by omega) (by omega)
  have e2 : IntKind.i64.wrap (lo + toN (hi - lo) d) = fromN lo hi d := by
    have : lo + toN (hi - lo) d = fromN lo hi d := rfl
    rw [this]; exact wrap_i64 (by omega) (by omega)
  have e3 : fromD lo hi d = toD (hi - lo) d := rfl
  rw [e3]
  generalize fromN lo hi d = r at *
  clear e3 hf hl
  refine spec_body Tryz.func83 rfl (fun E hE => ?_); simp only [go_sem, Tryz.ntmps83]
  repeat' (first | (with_reducible (show runOps _ _ _ _ _ _); first | (refine Qo fun K' hK => ?_; simp only [go_sem, *]) | refine run_nil ?_ | (refine Qy rfl rfl rfl fun K' hK => ?_; simp only [go_sem, *]) | (refine Qx rfl rfl rfl ?_; simp only [go_sem, *]) | (refine Qu rfl rfl rfl ?_; simp only [go_sem, *]) | (refine Qi rfl rfl rfl (fun hb K' hK => ?_) (fun hb => ?_) <;> (have hc := hb; try simp only [go_sem] at hc; simp only [go_sem, *]))) | (with_reducible (show Hold _ _ _ _ _); first | refine s_seq rfl ?_ | refine s_block rfl ?_ | refine s_region rfl ?_ | refine s_draw rfl Tryz.mixed (by kernel_rfl) ?_ | refine s_skip rfl ?_ | refine s_exit rfl ?_ | refine s_label rfl ?_ | (refine s_cond rfl ⟨_, rfl, fun hb => ?_, fun hb => ?_⟩ <;> (have hc := hb; try simp only [go_sem] at hc)) | refine s_ret rfl ?_) | (with_reducible (show callA _ _ _ _ _ _); first | (refine call_of [0] [] (st) (by simp) ?_ ?_ (by simp) (.inl rfl) ?_ ?_ ?_; (focus (simp only [go_sem, *]; done)); (focus (simp only [go_sem, *]; done)); (focus (first | (simp; done) | (simp [go_sem]; done))); (focus (first | (simp; done) | (simp [go_sem]; done))); simp only [go_sem, *])) | (with_reducible (show indepB _ _ = true ∧ _); refine And.intro (by kernel_rfl) ?_) | (with_reducible (show _ ∧ _); refine And.intro (by omega) ?_) | (refine contA_of hK ?_; clear hK K'; simp only [go_sem, *]) | (simp only [thenA, inBlockA, go_sem, *]))
  refine ⟨[_], [some 0], [], ⟨rfl, trivial⟩, ?_⟩
  simp only [go_sem, *]
theorem sp_Once (d : Dice) (k : Int) (h : d.list.length ≤ 4294967296) (hk : 0 ≤ k ∧ k ≤ 4294967296) : Spec Tryz.prog 84 [.ptr 0 0, iV k] [diceBox d] (bV (onceT k d)) [diceBox (onceR k d)] := by
  have st := sp_To d (k - 1) h (by omega)
  have e1 : IntKind.i64.wrap (k - 1) = k - 1 := wrap_i64 (by omega) (by omega)
  have e2 : onceT k d = (toN (k - 1) d == 0) := rfl
  have e3 : onceR k d = toD (k - 1) d := rfl
  rw [e3, e2]
  clear e2 e3 hk
  refine spec_body Tryz.func84 rfl (fun E hE => ?_); simp only [go_sem, Tryz.ntmps84]
  repeat' (first | (with_reducible (show runOps _ _ _ _ _ _); first | (refine Qo fun K' hK => ?_; simp only [go_sem, *]) | refine run_nil ?_ | (refine Qy rfl rfl rfl fun K' hK => ?_; simp only [go_sem, *]) | (refine Qx rfl rfl rfl ?_; simp only [go_sem, *]) | (refine Qu rfl rfl rfl ?_; simp only [go_sem, *]) | (refine Qi rfl rfl rfl (fun hb K' hK => ?_) (fun hb => ?_) <;> (have hc := hb; try simp only [go_sem] at hc; simp only [go_sem, *]))) | (with_reducible (show Hold _ _ _ _ _); first | refine s_seq rfl ?_ | refine s_block rfl ?_ | refine s_region rfl ?_ | refine s_draw rfl Tryz.mixed (by kernel_rfl) ?_ | refine s_skip rfl ?_ | refine s_exit rfl ?_ | refine s_label rfl ?_ | (refine s_cond rfl ⟨_, rfl, fun hb => ?_, fun hb => ?_⟩ <;> (have hc := hb; try simp only [go_sem] at hc)) | refine s_ret rfl ?_) | (with_reducible (show callA _ _ _ _ _ _); first | (refine call_of [0] [] (st) (by simp) ?_ ?_ (by simp) (.inl rfl) ?_ ?_ ?_; (focus (simp only [go_sem, *]; done)); (focus (simp only [go_sem, *]; done)); (focus (first | (simp; done) | (simp [go_sem]; done))); (focus (first | (simp; done) | (simp [go_sem]; done))); simp only [go_sem, *])) | (with_reducible (show indepB _ _ = true ∧ _); refine And.intro (by kernel_rfl) ?_) | (with_reducible (show _ ∧ _); refine And.intro (by omega) ?_) | (refine contA_of hK ?_; clear hK K'; simp only [go_sem, *]) | (simp only [thenA, inBlockA, go_sem, *]))
  refine ⟨[_], [some 0], [], ⟨rfl, trivial⟩, ?_⟩
  simp only [go_sem, *]
def newDice (l : List Int) : Dice := ⟨l, 0, 11400714819323198485⟩
theorem sp_NewDice (l : List Int) : Spec Tryz.prog 21 [encInts l] [] (.ptr 0 0) [diceBox (newDice l)] := by
  refine spec_body Tryz.func21 rfl (fun E hE => ?_); simp only [go_sem, Tryz.ntmps21]
  repeat' (first | (with_reducible (show runOps _ _ _ _ _ _); first | (refine Qo fun K' hK => ?_; simp only [go_sem, *]) | refine run_nil ?_ | (refine Qy rfl rfl rfl fun K' hK => ?_; simp only [go_sem, *]) | (refine Qx rfl rfl rfl ?_; simp only [go_sem, *]) | (refine Qu rfl rfl rfl ?_; simp only [go_sem, *]) | (refine Qi rfl rfl rfl (fun hb K' hK => ?_) (fun hb => ?_) <;> (have hc := hb; try simp only [go_sem] at hc; simp only [go_sem, *]))) | (with_reducible (show Hold _ _ _ _ _); first | refine s_seq rfl ?_ | refine s_block rfl ?_ | refine s_region rfl ?_ | refine s_draw rfl Tryz.mixed (by kernel_rfl) ?_ | refine s_skip rfl ?_ | refine s_exit rfl ?_ | refine s_label rfl ?_ | (refine s_cond rfl ⟨_, rfl, fun hb => ?_, fun hb => ?_⟩ <;> (have hc := hb; try simp only [go_sem] at hc)) | refine s_ret rfl ?_) | (with_reducible (show indepB _ _ = true ∧ _); refine And.intro (by kernel_rfl) ?_) | (with_reducible (show _ ∧ _); refine And.intro (by omega) ?_) | (refine contA_of hK ?_; clear hK K'; simp only [go_sem, *]) | (simp only [thenA, inBlockA, go_sem, *]))
  refine ⟨[_], [some 0], [], ⟨rfl, trivial⟩, ?_⟩
  simp only [go_sem, newDice, *]
end Go.Abs

namespace Go.Abs
open Go Go.Proofs
set_option maxRecDepth 10000
set_option maxHeartbeats 4000000
theorem fromD_list (a b : Int) (d : Dice) : (fromD a b d).list = d.list := toD_list _ _
theorem onceR_list (k : Int) (d : Dice) : (onceR k d).list = d.list := toD_list _ _
theorem plateN_list (d : Dice) : (plateN d).2.list = d.list := by
  unfold plateN plateK
  split
  · simp only [fromD_list, onceR_list]
  · simp only [fromD_list, onceR_list]
theorem platesN_list : ∀ (n : Nat) (d : Dice) (out : List Plate), (platesN n d out).2.list = d.list
  | 0, d, out => rfl
  | n + 1, d, out => by rw [platesN, platesN_list n]; exact plateN_list d
theorem platesOf_list (d : Dice) (m : Int) : (platesOf d m).2.list = d.list := by unfold platesOf; rw [platesN_list, toD_list]
def PlP (most : Int) (d : Dice) (k : Nat) (dd : Dice) (acc : List Plate) (R : List Plate × Dice) : Prop := platesN k dd acc = R ∧ dd.list.length ≤ 4294967296 ∧ acc.length + k ≤ 8
theorem PlP.next {most : Int} {d dd : Dice} {k : Nat} {acc : List Plate} {R : List Plate × Dice} (h : PlP most d (k + 1) dd acc R) : PlP most d k (plateN dd).2 (insPl (plateN dd).1 acc) R := by
  obtain ⟨h1, h2, h3⟩ := h
  have := insPl_len (x := (plateN dd).1) (l := acc)
  exact ⟨h1, by rw [plateN_list]; exact h2, by omega⟩
def AtP (x : Plate) (acc : List Plate) (j : Nat) : Prop := ∀ m, m < j → (acc.getD m default).lt x = true
theorem AtP.next {x : Plate} {acc : List Plate} {j : Nat} (h : AtP x acc j) (hx : (acc.getD j default).lt x = true) : AtP x acc (j + 1) := fun m hm => by
  rcases Nat.lt_succ_iff_lt_or_eq.1 hm with h1 | rfl
  · exact h m h1
  · exact hx
theorem sp_PlatesOf (d : Dice) (most : Int) (h : d.list.length ≤ 4294967296) (hm : most ≤ 8) :
    Spec Tryz.prog 85 [.ptr 0 0, iV most] [diceBox d] (.list ((platesOf d most).1.map Plate.enc)) [diceBox (platesOf d most).2] := by
  have st := sp_To d most h (by omega)
  have hr := toN_range most d
  obtain ⟨n, hn⟩ : ∃ n : Nat, toN most d = n := ⟨(toN most d).toNat, by omega⟩
  have h0 : PlP most d (n - 0) (toD most d) [] (platesOf d most) := by
    unfold platesOf
    rw [hn]
    exact ⟨by simp, by rw [toD_list]; exact h, by simp; omega⟩
  rw [hn] at st hr
  generalize platesOf d most = R at *
  obtain ⟨RL, RD⟩ := R
  clear hn
  generalize toD most d = d0 at *
  refine spec_body Tryz.func85 rfl (fun E hE => ?_); simp only [go_sem, Tryz.ntmps85]
  repeat' (first | (with_reducible (show runOps _ _ _ _ _ _); first | (refine Qo fun K' hK => ?_; simp only [go_sem, *]) | refine run_nil ?_ | (refine Qy rfl rfl rfl fun K' hK => ?_; simp only [go_sem, *]) | (refine Qx rfl rfl rfl ?_; simp only [go_sem, *]) | (refine Qu rfl rfl rfl ?_; simp only [go_sem, *]) | (refine Qi rfl rfl rfl (fun hb K' hK => ?_) (fun hb => ?_) <;> (have hc := hb; try simp only [go_sem] at hc; simp only [go_sem, *]))) | (with_reducible (show Hold _ _ _ _ _); first | refine s_seq rfl ?_ | refine s_block rfl ?_ | refine s_region rfl ?_ | refine s_draw rfl Tryz.mixed (by kernel_rfl) ?_ | refine s_skip rfl ?_ | refine s_exit rfl ?_ | refine s_label rfl ?_ | (refine s_cond rfl ⟨_, rfl, fun hb => ?_, fun hb => ?_⟩ <;> (have hc := hb; try simp only [go_sem] at hc)) | refine s_ret rfl ?_) | (with_reducible (show callA _ _ _ _ _ _); first | (refine call_of [0] [] (st) (by simp) ?_ ?_ (by simp) (.inl rfl) ?_ ?_ ?_; (focus (simp only [go_sem, *]; done)); (focus (simp only [go_sem, *]; done)); (focus (first | (simp; done) | (simp [go_sem]; done))); (focus (first | (simp; done) | (simp [go_sem]; done))); simp only [go_sem, *])) | (with_reducible (show indepB _ _ = true ∧ _); refine And.intro (by kernel_rfl) ?_) | (with_reducible (show _ ∧ _); refine And.intro (by omega) ?_) | (refine contA_of hK ?_; clear hK K'; simp only [go_sem, *]) | (simp only [thenA, inBlockA, go_sem, *]))
  refine s_loop rfl (fun zn zN zenv zAs => ∃ (i : Nat) (dd : Dice) (acc : List Plate), zn = (n) - i ∧ i ≤ (n) ∧ (PlP most d (n - i) dd acc (RL, RD)) ∧ zN = 63 ∧ zenv = [(6, iV ((n - i : Nat) : Int)), (5, .own 1 2 0 acc.length), (0, .ptr 0 0)] ∧ zAs = [diceBox dd, .row 2 (acc.map Plate.enc)]) (n) ⟨[some 0, none], [], _, _, _, (by (simp only [Weak, go_sem, List.map_append, List.map_set, *] <;> (try simp (disch := omega) only [wrap_succ]) <;> (try simp) <;> (try omega))), 0, d0, [], (by simp), (by simp), (by exact h0), rfl, rfl, rfl⟩ ?_; rintro _ _ _ _ ⟨i, dd, acc, rfl, hi, hP, rfl, rfl, rfl⟩
  clear h0 st
  by_cases hi2 : i < n
  · obtain ⟨k, hk⟩ : ∃ k, n - i = k + 1 := ⟨n - i - 1, by omega⟩
    have hk2 : n - (i + 1) = k := by omega
    rw [hk] at hP ⊢
    have hnx := hP.next
    have hw1 : IntKind.i64.wrap (((k + 1 : Nat) : Int) - 1) = (k : Int) := by rw [wrap_i64 (by omega) (by omega)]; omega
    have hgt : ((k + 1 : Nat) : Int) > 0 := by omega
    obtain ⟨_, hdl, hal⟩ := hP
    have s1 := sp_From dd 1 9 hdl (by omega) (by omega)
    have s2 := sp_Once (fromD 1 9 dd) 4 (by rw [fromD_list]; exact hdl) (by omega)
    have s3 := sp_From (onceR 4 (fromD 1 9 dd)) 1 2 (by rw [onceR_list, fromD_list]; exact hdl) (by omega) (by omega)
    unfold plateN at hnx
    generalize fromN 1 9 dd = x1 at *
    generalize fromD 1 9 dd = d1 at *
    generalize onceR 4 d1 = d2 at *
    generalize fromN 1 2 d2 = x2 at *
    generalize fromD 1 2 d2 = d3 at *
    obtain ⟨⟨x, d'⟩, hxd⟩ : ∃ xd, xd = plateK x1 (onceT 4 d1) x2 d3 d2 := ⟨_, rfl⟩
    rw [← hxd] at hnx
    generalize onceT 4 d1 = b at *
    have hxq : b = true ∧ x = ⟨x1, x2⟩ ∧ d' = d3 ∨ b = false ∧ x = ⟨x1, 0⟩ ∧ d' = d2 := by
      unfold plateK at hxd
      cases b
      · right; simpa using hxd
      · left; simpa using hxd
    clear hxd
    rcases hxq with ⟨rfl, hx, hd⟩ | ⟨rfl, hx, hd⟩
    all_goals repeat' (first | (with_reducible (show runOps _ _ _ _ _ _); first | (refine Qo fun K' hK => ?_; simp only [go_sem, *]) | refine run_nil ?_ | (refine Qy rfl rfl rfl fun K' hK => ?_; simp only [go_sem, *]) | (refine Qx rfl rfl rfl ?_; simp only [go_sem, *]) | (refine Qu rfl rfl rfl ?_; simp only [go_sem, *]) | (refine Qi rfl rfl rfl (fun hb K' hK => ?_) (fun hb => ?_) <;> (have hc := hb; try simp only [go_sem] at hc; simp only [go_sem, *]))) | (with_reducible (show Hold _ _ _ _ _); first | refine s_seq rfl ?_ | refine s_block rfl ?_ | refine s_region rfl ?_ | refine s_draw rfl Tryz.mixed (by kernel_rfl) ?_ | refine s_skip rfl ?_ | refine s_exit rfl ?_ | refine s_label rfl ?_ | (refine s_cond rfl ⟨_, rfl, fun hb => ?_, fun hb => ?_⟩ <;> (have hc := hb; try simp only [go_sem] at hc)) | refine s_ret rfl ?_) | (with_reducible (show callA _ _ _ _ _ _); first | (refine call_of [0] [] (s1) (by simp) ?_ ?_ (by simp) (.inl rfl) ?_ ?_ ?_; (focus (simp only [go_sem, *]; done)); (focus (simp only [go_sem, *]; done)); (focus (first | (simp; done) | (simp [go_sem]; done))); (focus (first | (simp; done) | (simp [go_sem]; done))); simp only [go_sem, *]) | (refine call_of [0] [] (s2) (by simp) ?_ ?_ (by simp) (.inl rfl) ?_ ?_ ?_; (focus (simp only [go_sem, *]; done)); (focus (simp only [go_sem, *]; done)); (focus (first | (simp; done) | (simp [go_sem]; done))); (focus (first | (simp; done) | (simp [go_sem]; done))); simp only [go_sem, *]) | (refine call_of [0] [] (s3) (by simp) ?_ ?_ (by simp) (.inl rfl) ?_ ?_ ?_; (focus (simp only [go_sem, *]; done)); (focus (simp only [go_sem, *]; done)); (focus (first | (simp; done) | (simp [go_sem]; done))); (focus (first | (simp; done) | (simp [go_sem]; done))); simp only [go_sem, *])) | (with_reducible (show indepB _ _ = true ∧ _); refine And.intro (by kernel_rfl) ?_) | (with_reducible (show _ ∧ _); refine And.intro (by omega) ?_) | (refine contA_of hK ?_; clear hK K'; simp only [go_sem, *]) | (simp only [thenA, inBlockA, go_sem, *]))
    all_goals first | contradiction | skip
    all_goals
      have hx1 := congrArg Plate.number hx
      have hx2 := congrArg Plate.letter hx
      simp only at hx1 hx2
      refine hold_weak (N := 63) (env := [(8, iV 0), (7, .ptr 2 0), (6, iV ((k + 1 : Nat) : Int)), (5, .own 1 2 0 acc.length), (0, .ptr 0 0)]) (As := [diceBox d', .row 2 (acc.map Plate.enc), .box [iV x.number, iV x.letter]]) [some 0, some 1, some 2] [] (by (simp only [Weak, go_sem, List.map_append, List.map_set, *] <;> (try simp (disch := omega) only [wrap_succ]) <;> (try simp) <;> (try omega))) ?_
      clear hx hd hx1 hx2 s1 s2 s3 hm hr
      refine s_loop rfl (fun zn zN zenv zAs => ∃ (j : Nat), zn = (acc.length) - j ∧ j ≤ (acc.length) ∧ (AtP x acc j) ∧ zN = 63 ∧ zenv = [(8, iV j), (7, .ptr 2 0), (6, iV ((k + 1 : Nat) : Int)), (5, .own 1 2 0 acc.length), (0, .ptr 0 0)] ∧ zAs = [diceBox d', .row 2 (acc.map Plate.enc), .box [iV x.number, iV x.letter]]) (acc.length) ⟨[some 0, some 1, some 2], [], _, _, _, (by (simp only [Weak, go_sem, List.map_append, List.map_set, *] <;> (try simp (disch := omega) only [wrap_succ]) <;> (try simp) <;> (try omega))), 0, (by simp), (by simp), (by exact fun m hm => absurd hm (by omega)), rfl, rfl, rfl⟩ ?_; rintro _ _ _ _ ⟨j, rfl, hj, hJ, rfl, rfl, rfl⟩
      have hmn : min j acc.length = j := by omega
      have hl2 : j + (acc.length - j + 1) = j + 1 + (acc.length - j) := by omega
      have hdl2 : (List.drop j (List.map Plate.enc acc)).length = acc.length - j := by simp
      have htd : List.take (acc.length - j) (List.drop j (List.map Plate.enc acc)) = List.drop j (List.map Plate.enc acc) := List.take_of_length_le (by simp)
      by_cases hj2 : j < acc.length
      · have hj3 : ((j : Int) == (acc.length : Int)) = false := by simp; omega
        have sb := sp_before (acc.getD j default) x
        by_cases hlt : (acc.getD j default).lt x = true
        · rw [hlt] at sb
          repeat' (first | (with_reducible (show runOps _ _ _ _ _ _); first | (refine Qo fun K' hK => ?_; simp only [go_sem, *]) | refine run_nil ?_ | (refine Qy rfl rfl rfl fun K' hK => ?_; simp only [go_sem, *]) | (refine Qx rfl rfl rfl ?_; simp only [go_sem, *]) | (refine Qu rfl rfl rfl ?_; simp only [go_sem, *]) | (refine Qi rfl rfl rfl (fun hb K' hK => ?_) (fun hb => ?_) <;> (have hc := hb; try simp only [go_sem] at hc; simp only [go_sem, *]))) | (with_reducible (show Hold _ _ _ _ _); first | refine s_seq rfl ?_ | refine s_block rfl ?_ | refine s_region rfl ?_ | refine s_draw rfl Tryz.mixed (by kernel_rfl) ?_ | refine s_skip rfl ?_ | refine s_exit rfl ?_ | refine s_label rfl ?_ | (refine s_cond rfl ⟨_, rfl, fun hb => ?_, fun hb => ?_⟩ <;> (have hc := hb; try simp only [go_sem] at hc)) | refine s_ret rfl ?_) | (with_reducible (show (∀ _ : AV, _ → _) ∧ _); refine And.intro ?_ ?_; (focus (intro y hy; first | (obtain ⟨z, _, rfl⟩ := List.mem_map.1 (hy); simp [go_sem]; done) | (obtain ⟨z, _, rfl⟩ := List.mem_map.1 (List.mem_of_mem_take hy); simp [go_sem]; done) | (obtain ⟨z, _, rfl⟩ := List.mem_map.1 (List.mem_of_mem_drop hy); simp [go_sem]; done) | (obtain ⟨z, _, rfl⟩ := List.mem_map.1 (List.mem_of_mem_drop (List.mem_of_mem_take hy)); simp [go_sem]; done)))) | (with_reducible (show callA _ _ _ _ _ _); first | (refine call_s (sb) ?_ ?_; (focus (simp only [go_sem, *]; done)); simp only [go_sem, *])) | (with_reducible (show indepB _ _ = true ∧ _); refine And.intro (by kernel_rfl) ?_) | (with_reducible (show _ ∧ _); refine And.intro (by omega) ?_) | (refine contA_of hK ?_; clear hK K'; simp only [go_sem, *]) | (simp only [thenA, inBlockA, go_sem, *]))
          all_goals first | contradiction | skip
          refine ⟨_, (by omega), [some 0, some 1, some 2], [], _, _, _, (by (simp only [Weak, go_sem, List.map_append, List.map_set, *] <;> (try simp (disch := omega) only [wrap_succ]) <;> (try simp) <;> (try omega))), j + 1, rfl, (by omega), (by exact hJ.next hlt), rfl, rfl, rfl⟩
        · rw [Bool.not_eq_true] at hlt
          rw [hlt] at sb
          have hin := insPl_at (by omega) hJ (fun _ => hlt)
          by_cases heq : acc.getD j default = x
          · rw [if_pos ⟨hj2, heq⟩] at hin
            rw [hin] at hnx
            clear hin
            have hne : (decide (acc.getD j default = x)) = true := by simpa using heq
            clear heq
            repeat' (first | (with_reducible (show runOps _ _ _ _ _ _); first | (refine Qo fun K' hK => ?_; simp only [go_sem, *]) | refine run_nil ?_ | (refine Qy rfl rfl rfl fun K' hK => ?_; simp only [go_sem, *]) | (refine Qx rfl rfl rfl ?_; simp only [go_sem, *]) | (refine Qu rfl rfl rfl ?_; simp only [go_sem, *]) | (refine Qi rfl rfl rfl (fun hb K' hK => ?_) (fun hb => ?_) <;> (have hc := hb; try simp only [go_sem] at hc; simp only [go_sem, *]))) | (with_reducible (show Hold _ _ _ _ _); first | refine s_seq rfl ?_ | refine s_block rfl ?_ | refine s_region rfl ?_ | refine s_draw rfl Tryz.mixed (by kernel_rfl) ?_ | refine s_skip rfl ?_ | refine s_exit rfl ?_ | refine s_label rfl ?_ | (refine s_cond rfl ⟨_, rfl, fun hb => ?_, fun hb => ?_⟩ <;> (have hc := hb; try simp only [go_sem] at hc)) | refine s_ret rfl ?_) | (with_reducible (show (∀ _ : AV, _ → _) ∧ _); refine And.intro ?_ ?_; (focus (intro y hy; first | (obtain ⟨z, _, rfl⟩ := List.mem_map.1 (hy); simp [go_sem]; done) | (obtain ⟨z, _, rfl⟩ := List.mem_map.1 (List.mem_of_mem_take hy); simp [go_sem]; done) | (obtain ⟨z, _, rfl⟩ := List.mem_map.1 (List.mem_of_mem_drop hy); simp [go_sem]; done) | (obtain ⟨z, _, rfl⟩ := List.mem_map.1 (List.mem_of_mem_drop (List.mem_of_mem_take hy)); simp [go_sem]; done)))) | (with_reducible (show callA _ _ _ _ _ _); first | (refine call_s (sb) ?_ ?_; (focus (simp only [go_sem, *]; done)); simp only [go_sem, *])) | (with_reducible (show indepB _ _ = true ∧ _); refine And.intro (by kernel_rfl) ?_) | (with_reducible (show _ ∧ _); refine And.intro (by omega) ?_) | (refine contA_of hK ?_; clear hK K'; simp only [go_sem, *]) | (simp only [thenA, inBlockA, go_sem, *]))
            all_goals first | contradiction | skip
            refine ⟨_, (by omega), [some 0, some 1], [], _, _, _, (by (simp only [Weak, go_sem, List.map_append, List.map_set, *] <;> (try simp (disch := omega) only [wrap_succ]) <;> (try simp) <;> (try omega))), i + 1, d', acc, rfl, (by omega), (by rw [hk2]; exact hnx), rfl, rfl, rfl⟩
          · rw [if_neg (fun h => heq h.2)] at hin
            rw [hin] at hnx
            clear hin
            have hne : (decide (acc.getD j default = x)) = false := by simpa using heq
            clear heq
            repeat' (first | (with_reducible (show runOps _ _ _ _ _ _); first | (refine Qo fun K' hK => ?_; simp only [go_sem, *]) | refine run_nil ?_ | (refine Qy rfl rfl rfl fun K' hK => ?_; simp only [go_sem, *]) | (refine Qx rfl rfl rfl ?_; simp only [go_sem, *]) | (refine Qu rfl rfl rfl ?_; simp only [go_sem, *]) | (refine Qi rfl rfl rfl (fun hb K' hK => ?_) (fun hb => ?_) <;> (have hc := hb; try simp only [go_sem] at hc; simp only [go_sem, *]))) | (with_reducible (show Hold _ _ _ _ _); first | refine s_seq rfl ?_ | refine s_block rfl ?_ | refine s_region rfl ?_ | refine s_draw rfl Tryz.mixed (by kernel_rfl) ?_ | refine s_skip rfl ?_ | refine s_exit rfl ?_ | refine s_label rfl ?_ | (refine s_cond rfl ⟨_, rfl, fun hb => ?_, fun hb => ?_⟩ <;> (have hc := hb; try simp only [go_sem] at hc)) | refine s_ret rfl ?_) | (with_reducible (show (∀ _ : AV, _ → _) ∧ _); refine And.intro ?_ ?_; (focus (intro y hy; first | (obtain ⟨z, _, rfl⟩ := List.mem_map.1 (hy); simp [go_sem]; done) | (obtain ⟨z, _, rfl⟩ := List.mem_map.1 (List.mem_of_mem_take hy); simp [go_sem]; done) | (obtain ⟨z, _, rfl⟩ := List.mem_map.1 (List.mem_of_mem_drop hy); simp [go_sem]; done) | (obtain ⟨z, _, rfl⟩ := List.mem_map.1 (List.mem_of_mem_drop (List.mem_of_mem_take hy)); simp [go_sem]; done)))) | (with_reducible (show callA _ _ _ _ _ _); first | (refine call_s (sb) ?_ ?_; (focus (simp only [go_sem, *]; done)); simp only [go_sem, *])) | (with_reducible (show indepB _ _ = true ∧ _); refine And.intro (by kernel_rfl) ?_) | (with_reducible (show _ ∧ _); refine And.intro (by omega) ?_) | (refine contA_of hK ?_; clear hK K'; simp only [go_sem, *]) | (simp only [thenA, inBlockA, go_sem, *]))
            all_goals first | contradiction | skip
            refine ⟨_, (by omega), [some 0, some 7], [], _, _, _, (by (simp only [Weak, go_sem, List.map_append, List.map_set, *] <;> (try simp (disch := omega) only [wrap_succ]) <;> (try simp) <;> (try omega))), i + 1, d', acc.take j ++ x :: acc.drop j, rfl, (by omega), (by rw [hk2]; exact hnx), rfl, rfl, rfl⟩
      · have hin := insPl_at (x := x) (l := acc) (k := j) (by omega) hJ (fun h => absurd h hj2)
        rw [if_neg (fun h => hj2 h.1)] at hin
        rw [hin] at hnx
        clear hin
        have hj3 : ((j : Int) == (acc.length : Int)) = true := by simp; omega
        repeat' (first | (with_reducible (show runOps _ _ _ _ _ _); first | (refine Qo fun K' hK => ?_; simp only [go_sem, *]) | refine run_nil ?_ | (refine Qy rfl rfl rfl fun K' hK => ?_; simp only [go_sem, *]) | (refine Qx rfl rfl rfl ?_; simp only [go_sem, *]) | (refine Qu rfl rfl rfl ?_; simp only [go_sem, *]) | (refine Qi rfl rfl rfl (fun hb K' hK => ?_) (fun hb => ?_) <;> (have hc := hb; try simp only [go_sem] at hc; simp only [go_sem, *]))) | (with_reducible (show Hold _ _ _ _ _); first | refine s_seq rfl ?_ | refine s_block rfl ?_ | refine s_region rfl ?_ | refine s_draw rfl Tryz.mixed (by kernel_rfl) ?_ | refine s_skip rfl ?_ | refine s_exit rfl ?_ | refine s_label rfl ?_ | (refine s_cond rfl ⟨_, rfl, fun hb => ?_, fun hb => ?_⟩ <;> (have hc := hb; try simp only [go_sem] at hc)) | refine s_ret rfl ?_) | (with_reducible (show (∀ _ : AV, _ → _) ∧ _); refine And.intro ?_ ?_; (focus (intro y hy; first | (obtain ⟨z, _, rfl⟩ := List.mem_map.1 (hy); simp [go_sem]; done) | (obtain ⟨z, _, rfl⟩ := List.mem_map.1 (List.mem_of_mem_take hy); simp [go_sem]; done) | (obtain ⟨z, _, rfl⟩ := List.mem_map.1 (List.mem_of_mem_drop hy); simp [go_sem]; done) | (obtain ⟨z, _, rfl⟩ := List.mem_map.1 (List.mem_of_mem_drop (List.mem_of_mem_take hy)); simp [go_sem]; done)))) | (with_reducible (show indepB _ _ = true ∧ _); refine And.intro (by kernel_rfl) ?_) | (with_reducible (show _ ∧ _); refine And.intro (by omega) ?_) | (refine contA_of hK ?_; clear hK K'; simp only [go_sem, *]) | (simp only [thenA, inBlockA, go_sem, *]))
        all_goals first | contradiction | skip
        refine ⟨_, (by omega), [some 0, some 7], [], _, _, _, (by (simp only [Weak, go_sem, List.map_append, List.map_set, *] <;> (try simp (disch := omega) only [wrap_succ]) <;> (try simp) <;> (try omega))), i + 1, d', acc.take j ++ x :: acc.drop j, rfl, (by omega), (by rw [hk2]; exact hnx), rfl, rfl, rfl⟩
  · have hni : n - i = 0 := by omega
    rw [hni] at hP ⊢
    obtain ⟨e, _, _⟩ := hP
    rw [platesN] at e
    cases e
    repeat' (first | (with_reducible (show runOps _ _ _ _ _ _); first | (refine Qo fun K' hK => ?_; simp only [go_sem, *]) | refine run_nil ?_ | (refine Qy rfl rfl rfl fun K' hK => ?_; simp only [go_sem, *]) | (refine Qx rfl rfl rfl ?_; simp only [go_sem, *]) | (refine Qu rfl rfl rfl ?_; simp only [go_sem, *]) | (refine Qi rfl rfl rfl (fun hb K' hK => ?_) (fun hb => ?_) <;> (have hc := hb; try simp only [go_sem] at hc; simp only [go_sem, *]))) | (with_reducible (show Hold _ _ _ _ _); first | refine s_seq rfl ?_ | refine s_block rfl ?_ | refine s_region rfl ?_ | refine s_draw rfl Tryz.mixed (by kernel_rfl) ?_ | refine s_skip rfl ?_ | refine s_exit rfl ?_ | refine s_label rfl ?_ | (refine s_cond rfl ⟨_, rfl, fun hb => ?_, fun hb => ?_⟩ <;> (have hc := hb; try simp only [go_sem] at hc)) | refine s_ret rfl ?_) | (with_reducible (show indepB _ _ = true ∧ _); refine And.intro (by kernel_rfl) ?_) | (with_reducible (show _ ∧ _); refine And.intro (by omega) ?_) | (refine contA_of hK ?_; clear hK K'; simp only [go_sem, *]) | (simp only [thenA, inBlockA, go_sem, *]))
    refine ⟨[_], [some 0], [1], ⟨rfl, trivial⟩, ?_⟩
    simp only [go_sem, *]
end Go.Abs

namespace Go.Abs
open Go Go.Proofs
set_option maxRecDepth 10000
set_option maxHeartbeats 4000000
theorem streetN_list (d : Dice) (h : Int) : (streetN d h).2.list = d.list := by unfold streetN; rw [platesOf_list, onceR_list]
theorem streetsN_list (h : Int) : ∀ (n : Nat) (d : Dice) (out : Plan), (streetsN h n d out).2.list = d.list
  | 0, d, out => rfl
  | n + 1, d, out => by rw [streetsN, streetsN_list h n]; exact streetN_list d h
theorem planOf_list (d : Dice) (h : Int) : (planOf d h).2.list = d.list := by unfold planOf; rw [streetsN_list, fromD_list]
def StP (houses : Int) (k : Nat) (dd : Dice) (acc : Plan) (R : Plan × Dice) : Prop := streetsN houses k dd acc = R ∧ dd.list.length ≤ 4294967296 ∧ acc.length + k ≤ 3
theorem StP.next {houses : Int} {dd : Dice} {k : Nat} {acc : Plan} {R : Plan × Dice} (h : StP houses (k + 1) dd acc R) : StP houses k (streetN dd houses).2 (acc ++ [(streetN dd houses).1]) R := by
  obtain ⟨h1, h2, h3⟩ := h
  exact ⟨h1, by rw [streetN_list]; exact h2, by simp; omega⟩
theorem sp_PlanOf (d : Dice) (houses : Int) (h : d.list.length ≤ 4294967296) (hm : houses ≤ 8) :
    Spec Tryz.prog 22 [.ptr 0 0, iV houses] [diceBox d] (encPlan (planOf d houses).1) [diceBox (planOf d houses).2] := by
  have st := sp_From d 1 3 h (by omega) (by omega)
  have hr := fromN_le (lo := 1) (hi := 3) (by omega) d
  obtain ⟨n, hn⟩ : ∃ n : Nat, fromN 1 3 d = n := ⟨(fromN 1 3 d).toNat, by omega⟩
  have h0 : StP houses (n - 0) (fromD 1 3 d) [] (planOf d houses) := by
    unfold planOf
    rw [hn]
    exact ⟨by simp, by rw [fromD_list]; exact h, by simp; omega⟩
  rw [hn] at st hr
  generalize planOf d houses = R at *
  obtain ⟨RL, RD⟩ := R
  clear hn
  generalize fromD 1 3 d = d0 at *
  refine spec_body Tryz.func22 rfl (fun E hE => ?_); simp only [go_sem, Tryz.ntmps22]
  repeat' (first | (with_reducible (show runOps _ _ _ _ _ _); first | (refine Qo fun K' hK => ?_; simp only [go_sem, *]) | refine run_nil ?_ | (refine Qy rfl rfl rfl fun K' hK => ?_; simp only [go_sem, *]) | (refine Qx rfl rfl rfl ?_; simp only [go_sem, *]) | (refine Qu rfl rfl rfl ?_; simp only [go_sem, *]) | (refine Qi rfl rfl rfl (fun hb K' hK => ?_) (fun hb => ?_) <;> (have hc := hb; try simp only [go_sem] at hc; simp only [go_sem, *]))) | (with_reducible (show Hold _ _ _ _ _); first | refine s_seq rfl ?_ | refine s_block rfl ?_ | refine s_region rfl ?_ | refine s_draw rfl Tryz.mixed (by kernel_rfl) ?_ | refine s_skip rfl ?_ | refine s_exit rfl ?_ | refine s_label rfl ?_ | (refine s_cond rfl ⟨_, rfl, fun hb => ?_, fun hb => ?_⟩ <;> (have hc := hb; try simp only [go_sem] at hc)) | refine s_ret rfl ?_) | (with_reducible (show callA _ _ _ _ _ _); first | (refine call_of [0] [] (st) (by simp) ?_ ?_ (by simp) (.inl rfl) ?_ ?_ ?_; (focus (simp only [go_sem, *]; done)); (focus (simp only [go_sem, *]; done)); (focus (first | (simp; done) | (simp [go_sem]; done))); (focus (first | (simp; done) | (simp [go_sem]; done))); simp only [go_sem, *])) | (with_reducible (show indepB _ _ = true ∧ _); refine And.intro (by kernel_rfl) ?_) | (with_reducible (show _ ∧ _); refine And.intro (by omega) ?_) | (refine contA_of hK ?_; clear hK K'; simp only [go_sem, *]) | (simp only [thenA, inBlockA, go_sem, *]))
  refine s_loop rfl (fun zn zN zenv zAs => ∃ (i : Nat) (dd : Dice) (acc : Plan), zn = (n) - i ∧ i ≤ (n) ∧ (StP houses (n - i) dd acc (RL, RD)) ∧ zN = 26 ∧ zenv = [(6, iV ((n - i : Nat) : Int)), (5, .ptr 2 0), (4, .ptr 1 0), (1, iV houses), (0, .ptr 0 0)] ∧ zAs = [diceBox dd, .box [nilV], .box [.own 3 1 0 acc.length], .box (acc.map encStreet)]) (n) ⟨[some 0, some 1, some 2, none], [], _, _, _, (by (simp only [Weak, go_sem, List.map_append, List.map_set, *] <;> (try simp (disch := omega) only [wrap_succ]) <;> (try simp) <;> (try omega))), 0, d0, [], (by simp), (by simp), (by exact h0), rfl, rfl, rfl⟩ ?_; rintro _ _ _ _ ⟨i, dd, acc, rfl, hi, hP, rfl, rfl, rfl⟩
  clear h0 st
  by_cases hi2 : i < n
  · obtain ⟨k, hk⟩ : ∃ k, n - i = k + 1 := ⟨n - i - 1, by omega⟩
    have hk2 : n - (i + 1) = k := by omega
    rw [hk] at hP ⊢
    have hnx := hP.next
    have hw1 : IntKind.i64.wrap (((k + 1 : Nat) : Int) - 1) = (k : Int) := by rw [wrap_i64 (by omega) (by omega)]; omega
    have hgt : ((k + 1 : Nat) : Int) > 0 := by omega
    obtain ⟨_, hdl, hal⟩ := hP
    have s2 := sp_Once dd 3 hdl (by omega)
    have hol : (onceR 3 dd).list.length ≤ 4294967296 := by rw [onceR_list]; exact hdl
    unfold streetN at hnx
    generalize onceR 3 dd = d2 at *
    by_cases b : onceT 3 dd = true
    · rw [if_pos b] at hnx
      rw [b] at s2
      clear b
      have s3 := sp_PlatesOf d2 0 hol (by omega)
      generalize platesOf d2 0 = L at *
      obtain ⟨l, d3⟩ := L
      have hnx2 : StP houses k d3 (acc ++ [l]) (RL, RD) := hnx
      clear hnx
      simp only at s3
      repeat' (first | (with_reducible (show runOps _ _ _ _ _ _); first | (refine Qo fun K' hK => ?_; simp only [go_sem, *]) | refine run_nil ?_ | (refine Qy rfl rfl rfl fun K' hK => ?_; simp only [go_sem, *]) | (refine Qx rfl rfl rfl ?_; simp only [go_sem, *]) | (refine Qu rfl rfl rfl ?_; simp only [go_sem, *]) | (refine Qi rfl rfl rfl (fun hb K' hK => ?_) (fun hb => ?_) <;> (have hc := hb; try simp only [go_sem] at hc; simp only [go_sem, *]))) | (with_reducible (show Hold _ _ _ _ _); first | refine s_seq rfl ?_ | refine s_block rfl ?_ | refine s_region rfl ?_ | refine s_draw rfl Tryz.mixed (by kernel_rfl) ?_ | refine s_skip rfl ?_ | refine s_exit rfl ?_ | refine s_label rfl ?_ | (refine s_cond rfl ⟨_, rfl, fun hb => ?_, fun hb => ?_⟩ <;> (have hc := hb; try simp only [go_sem] at hc)) | refine s_ret rfl ?_) | (with_reducible (show callA _ _ _ _ _ _); first | (refine call_of [0] [] (s2) (by simp) ?_ ?_ (by simp) (.inl rfl) ?_ ?_ ?_; (focus (simp only [go_sem, *]; done)); (focus (simp only [go_sem, *]; done)); (focus (first | (simp; done) | (simp [go_sem]; done))); (focus (first | (simp; done) | (simp [go_sem]; done))); simp only [go_sem, *]) | (refine call_of [0] [] (s3) (by simp) ?_ ?_ (by simp) (.inl rfl) ?_ ?_ ?_; (focus (simp only [go_sem, *]; done)); (focus (simp only [go_sem, *]; done)); (focus (first | (simp; done) | (simp [go_sem]; done))); (focus (first | (simp; done) | (simp [go_sem]; done))); simp only [go_sem, *])) | (with_reducible (show indepB _ _ = true ∧ _); refine And.intro (by kernel_rfl) ?_) | (with_reducible (show _ ∧ _); refine And.intro (by omega) ?_) | (refine contA_of hK ?_; clear hK K'; simp only [go_sem, *]) | (simp only [thenA, inBlockA, go_sem, *]))
      all_goals first | contradiction | skip
      refine ⟨_, (by omega), [some 0, some 1, some 2, some 5], [], _, _, _, (by (simp only [Weak, go_sem, List.map_append, List.map_set, *] <;> (try simp (disch := omega) only [wrap_succ]) <;> (try simp) <;> (try omega))), i + 1, d3, acc ++ [l], rfl, (by omega), (by rw [hk2]; exact hnx2), rfl, rfl, rfl⟩
    · rw [if_neg b] at hnx
      rw [Bool.not_eq_true] at b
      rw [b] at s2
      clear b
      have s3 := sp_PlatesOf d2 houses hol hm
      generalize platesOf d2 houses = L at *
      obtain ⟨l, d3⟩ := L
      have hnx2 : StP houses k d3 (acc ++ [l]) (RL, RD) := hnx
      clear hnx
      simp only at s3
      repeat' (first | (with_reducible (show runOps _ _ _ _ _ _); first | (refine Qo fun K' hK => ?_; simp only [go_sem, *]) | refine run_nil ?_ | (refine Qy rfl rfl rfl fun K' hK => ?_; simp only [go_sem, *]) | (refine Qx rfl rfl rfl ?_; simp only [go_sem, *]) | (refine Qu rfl rfl rfl ?_; simp only [go_sem, *]) | (refine Qi rfl rfl rfl (fun hb K' hK => ?_) (fun hb => ?_) <;> (have hc := hb; try simp only [go_sem] at hc; simp only [go_sem, *]))) | (with_reducible (show Hold _ _ _ _ _); first | refine s_seq rfl ?_ | refine s_block rfl ?_ | refine s_region rfl ?_ | refine s_draw rfl Tryz.mixed (by kernel_rfl) ?_ | refine s_skip rfl ?_ | refine s_exit rfl ?_ | refine s_label rfl ?_ | (refine s_cond rfl ⟨_, rfl, fun hb => ?_, fun hb => ?_⟩ <;> (have hc := hb; try simp only [go_sem] at hc)) | refine s_ret rfl ?_) | (with_reducible (show callA _ _ _ _ _ _); first | (refine call_of [0] [] (s2) (by simp) ?_ ?_ (by simp) (.inl rfl) ?_ ?_ ?_; (focus (simp only [go_sem, *]; done)); (focus (simp only [go_sem, *]; done)); (focus (first | (simp; done) | (simp [go_sem]; done))); (focus (first | (simp; done) | (simp [go_sem]; done))); simp only [go_sem, *]) | (refine call_of [0] [] (s3) (by simp) ?_ ?_ (by simp) (.inl rfl) ?_ ?_ ?_; (focus (simp only [go_sem, *]; done)); (focus (simp only [go_sem, *]; done)); (focus (first | (simp; done) | (simp [go_sem]; done))); (focus (first | (simp; done) | (simp [go_sem]; done))); simp only [go_sem, *])) | (with_reducible (show indepB _ _ = true ∧ _); refine And.intro (by kernel_rfl) ?_) | (with_reducible (show _ ∧ _); refine And.intro (by omega) ?_) | (refine contA_of hK ?_; clear hK K'; simp only [go_sem, *]) | (simp only [thenA, inBlockA, go_sem, *]))
      all_goals first | contradiction | skip
      refine ⟨_, (by omega), [some 0, some 1, some 2, some 5], [], _, _, _, (by (simp only [Weak, go_sem, List.map_append, List.map_set, *] <;> (try simp (disch := omega) only [wrap_succ]) <;> (try simp) <;> (try omega))), i + 1, d3, acc ++ [l], rfl, (by omega), (by rw [hk2]; exact hnx2), rfl, rfl, rfl⟩
  · have hni : n - i = 0 := by omega
    rw [hni] at hP ⊢
    obtain ⟨e, _, _⟩ := hP
    rw [streetsN] at e
    cases e
    repeat' (first | (with_reducible (show runOps _ _ _ _ _ _); first | (refine Qo fun K' hK => ?_; simp only [go_sem, *]) | refine run_nil ?_ | (refine Qy rfl rfl rfl fun K' hK => ?_; simp only [go_sem, *]) | (refine Qx rfl rfl rfl ?_; simp only [go_sem, *]) | (refine Qu rfl rfl rfl ?_; simp only [go_sem, *]) | (refine Qi rfl rfl rfl (fun hb K' hK => ?_) (fun hb => ?_) <;> (have hc := hb; try simp only [go_sem] at hc; simp only [go_sem, *]))) | (with_reducible (show Hold _ _ _ _ _); first | refine s_seq rfl ?_ | refine s_block rfl ?_ | refine s_region rfl ?_ | refine s_draw rfl Tryz.mixed (by kernel_rfl) ?_ | refine s_skip rfl ?_ | refine s_exit rfl ?_ | refine s_label rfl ?_ | (refine s_cond rfl ⟨_, rfl, fun hb => ?_, fun hb => ?_⟩ <;> (have hc := hb; try simp only [go_sem] at hc)) | refine s_ret rfl ?_) | (with_reducible (show indepB _ _ = true ∧ _); refine And.intro (by kernel_rfl) ?_) | (with_reducible (show _ ∧ _); refine And.intro (by omega) ?_) | (refine contA_of hK ?_; clear hK K'; simp only [go_sem, *]) | (simp only [thenA, inBlockA, go_sem, *]))
    refine ⟨[.agg [.own 3 1 0 (List.length RL)]], [some 0], [3], ⟨by simp only [resOne, go_sem], trivial⟩, ?_⟩
    simp only [go_sem, *]
    simp
end Go.Abs

namespace Go.Abs
open Go Go.Proofs
set_option maxRecDepth 10000
set_option maxHeartbeats 4000000
theorem look_house_ok {h : House} {hs : List House} {F : House → AV} {o : Nat} {H : Nat → AObj} {K : Cont} (ho : H o = .mapo (hs.map House.key) (hs.map F)) (hw : ∀ k, k ∈ hs → k.Wf) (hh : h.Wf)
    (hk : K (.tup [if h ∈ hs then F h else .list [], bV (decide (h ∈ hs))]) [o] []) : lookupA Tryz.prog 121 (.mp o) h.enc true H K := by
  obtain ⟨et, h1, h2⟩ := moves_type
  unfold lookupA
  rw [h1, keyA_house]
  simp only [h2, ho]
  refine ⟨keyed_place, keyB_place h hh, by simp [Value.cells, Value.oneCell'], fun q hq => ?_, ?_⟩
  · obtain ⟨k, hk, rfl⟩ := List.mem_map.1 hq; exact keyB_place k (hw k hk)
  · rw [lookA_key, hasA_key]; simpa [zAV] using hk
theorem sp_Becomes (p : Plan) (c : Change) (h : House) (hp : p.length ≤ 4294967296) (hwf : h.Wf) :
    Spec Tryz.prog 36 [encPlan p, c.enc, h.enc] [] (.tup [.list ((becomesOf p c h).map House.enc), iV (becomesErr p c h)]) [] := by
  obtain ⟨s1, s2⟩ := sp_made p c hp
  by_cases e : errOf p c = 0
  · have s := s2 e
    have hc : check p = 0 := by
      unfold errOf at e
      split at e <;> assumption
    have v := (check_zero p).1 hc
    have hcan : can p c = 0 := by unfold errOf at e; rw [if_pos hc] at e; exact e
    have f := Fit.of_can hcan
    have hw := v.wf
    clear s1 s2
    by_cases hm : h ∈ housesOf p
    · have e1 : becomesErr p c h = 0 := by unfold becomesErr; rw [if_pos e, if_pos hm]
      have e2 : becomesOf p c h = sortH (mv p c h) := by unfold becomesOf; rw [if_pos e1]
      have ss := sp_sorted (mv p c h) (mv_nodup f hm) (by have := mv_len f h; omega)
      rw [e1, e2]
      clear e e1 e2
      have hd : decide (h ∈ housesOf p) = true := by simpa using hm
      refine spec_body Tryz.func36 rfl (fun E hE => ?_); simp only [go_sem, Tryz.ntmps36]
      repeat' (first | (with_reducible (show runOps _ _ _ _ _ _); first | (refine Qo fun K' hK => ?_; simp only [go_sem, *]) | refine run_nil ?_ | (refine Qy rfl rfl rfl fun K' hK => ?_; simp only [go_sem, *]) | (refine Qx rfl rfl rfl ?_; simp only [go_sem, *]) | (refine Qu rfl rfl rfl ?_; simp only [go_sem, *]) | (refine Qi rfl rfl rfl (fun hb K' hK => ?_) (fun hb => ?_) <;> (have hc := hb; try simp only [go_sem] at hc; simp only [go_sem, *]))) | (with_reducible (show Hold _ _ _ _ _); first | refine s_seq rfl ?_ | refine s_block rfl ?_ | refine s_region rfl ?_ | refine s_draw rfl Tryz.mixed (by kernel_rfl) ?_ | refine s_skip rfl ?_ | refine s_exit rfl ?_ | refine s_label rfl ?_ | (refine s_cond rfl ⟨_, rfl, fun hb => ?_, fun hb => ?_⟩ <;> (have hc := hb; try simp only [go_sem] at hc)) | refine s_ret rfl ?_) | (with_reducible (show callA _ _ _ _ _ _); first | (refine call_n (s) ?_ ?_ ?_ ?_; (focus (simp only [go_sem, *]; done)); (focus (first | (simp; done) | (simp [go_sem]; done))); (focus (first | (simp; done) | (simp [go_sem]; done))); simp only [go_sem, *])) | (with_reducible (show indepB _ _ = true ∧ _); refine And.intro (by kernel_rfl) ?_) | (with_reducible (show _ ∧ _); refine And.intro (by omega) ?_) | (refine contA_of hK ?_; clear hK K'; simp only [go_sem, *]) | (simp only [thenA, inBlockA, go_sem, *]))
      all_goals first | contradiction | skip
      refine look_house_ok (h := h) (hs := housesOf p) (F := MapV (mv p c)) (by simp only [go_sem]) hw hwf ?_
      rw [if_pos hm, MapV, hd]
      repeat' (first | (with_reducible (show runOps _ _ _ _ _ _); first | (refine Qo fun K' hK => ?_; simp only [go_sem, *]) | refine run_nil ?_ | (refine Qy rfl rfl rfl fun K' hK => ?_; simp only [go_sem, *]) | (refine Qx rfl rfl rfl ?_; simp only [go_sem, *]) | (refine Qu rfl rfl rfl ?_; simp only [go_sem, *]) | (refine Qi rfl rfl rfl (fun hb K' hK => ?_) (fun hb => ?_) <;> (have hc := hb; try simp only [go_sem] at hc; simp only [go_sem, *]))) | (with_reducible (show Hold _ _ _ _ _); first | refine s_seq rfl ?_ | refine s_block rfl ?_ | refine s_region rfl ?_ | refine s_draw rfl Tryz.mixed (by kernel_rfl) ?_ | refine s_skip rfl ?_ | refine s_exit rfl ?_ | refine s_label rfl ?_ | (refine s_cond rfl ⟨_, rfl, fun hb => ?_, fun hb => ?_⟩ <;> (have hc := hb; try simp only [go_sem] at hc)) | refine s_ret rfl ?_) | (with_reducible (show callA _ _ _ _ _ _); first | (refine call_s (ss) ?_ ?_; (focus (simp only [go_sem, *]; done)); simp only [go_sem, *])) | (with_reducible (show indepB _ _ = true ∧ _); refine And.intro (by kernel_rfl) ?_) | (with_reducible (show _ ∧ _); refine And.intro (by omega) ?_) | (refine contA_of hK ?_; clear hK K'; simp only [go_sem, *]) | (simp only [thenA, inBlockA, go_sem, *]))
      all_goals first | contradiction | skip
      (refine ⟨[_, _], [], [], ⟨rfl, rfl, trivial⟩, ?_⟩; simp only [go_sem, *])
    · have e1 : becomesErr p c h = 3 := by unfold becomesErr; rw [if_pos e, if_neg hm]
      have e2 : becomesOf p c h = [] := by unfold becomesOf; rw [e1]; rfl
      rw [e1, e2]
      clear e e1 e2
      have hd : decide (h ∈ housesOf p) = false := by simpa using hm
      refine spec_body Tryz.func36 rfl (fun E hE => ?_); simp only [go_sem, Tryz.ntmps36]
      repeat' (first | (with_reducible (show runOps _ _ _ _ _ _); first | (refine Qo fun K' hK => ?_; simp only [go_sem, *]) | refine run_nil ?_ | (refine Qy rfl rfl rfl fun K' hK => ?_; simp only [go_sem, *]) | (refine Qx rfl rfl rfl ?_; simp only [go_sem, *]) | (refine Qu rfl rfl rfl ?_; simp only [go_sem, *]) | (refine Qi rfl rfl rfl (fun hb K' hK => ?_) (fun hb => ?_) <;> (have hc := hb; try simp only [go_sem] at hc; simp only [go_sem, *]))) | (with_reducible (show Hold _ _ _ _ _); first | refine s_seq rfl ?_ | refine s_block rfl ?_ | refine s_region rfl ?_ | refine s_draw rfl Tryz.mixed (by kernel_rfl) ?_ | refine s_skip rfl ?_ | refine s_exit rfl ?_ | refine s_label rfl ?_ | (refine s_cond rfl ⟨_, rfl, fun hb => ?_, fun hb => ?_⟩ <;> (have hc := hb; try simp only [go_sem] at hc)) | refine s_ret rfl ?_) | (with_reducible (show callA _ _ _ _ _ _); first | (refine call_n (s) ?_ ?_ ?_ ?_; (focus (simp only [go_sem, *]; done)); (focus (first | (simp; done) | (simp [go_sem]; done))); (focus (first | (simp; done) | (simp [go_sem]; done))); simp only [go_sem, *])) | (with_reducible (show indepB _ _ = true ∧ _); refine And.intro (by kernel_rfl) ?_) | (with_reducible (show _ ∧ _); refine And.intro (by omega) ?_) | (refine contA_of hK ?_; clear hK K'; simp only [go_sem, *]) | (simp only [thenA, inBlockA, go_sem, *]))
      all_goals first | contradiction | skip
      refine look_house_ok (h := h) (hs := housesOf p) (F := MapV (mv p c)) (by simp only [go_sem]) hw hwf ?_
      rw [if_neg hm, hd]
      repeat' (first | (with_reducible (show runOps _ _ _ _ _ _); first | (refine Qo fun K' hK => ?_; simp only [go_sem, *]) | refine run_nil ?_ | (refine Qy rfl rfl rfl fun K' hK => ?_; simp only [go_sem, *]) | (refine Qx rfl rfl rfl ?_; simp only [go_sem, *]) | (refine Qu rfl rfl rfl ?_; simp only [go_sem, *]) | (refine Qi rfl rfl rfl (fun hb K' hK => ?_) (fun hb => ?_) <;> (have hc := hb; try simp only [go_sem] at hc; simp only [go_sem, *]))) | (with_reducible (show Hold _ _ _ _ _); first | refine s_seq rfl ?_ | refine s_block rfl ?_ | refine s_region rfl ?_ | refine s_draw rfl Tryz.mixed (by kernel_rfl) ?_ | refine s_skip rfl ?_ | refine s_exit rfl ?_ | refine s_label rfl ?_ | (refine s_cond rfl ⟨_, rfl, fun hb => ?_, fun hb => ?_⟩ <;> (have hc := hb; try simp only [go_sem] at hc)) | refine s_ret rfl ?_) | (with_reducible (show indepB _ _ = true ∧ _); refine And.intro (by kernel_rfl) ?_) | (with_reducible (show _ ∧ _); refine And.intro (by omega) ?_) | (refine contA_of hK ?_; clear hK K'; simp only [go_sem, *]) | (simp only [thenA, inBlockA, go_sem, *]))
      all_goals first | contradiction | skip
      (refine ⟨[_, _], [], [], ⟨rfl, rfl, trivial⟩, ?_⟩; simp only [go_sem, *])
  · have s := s1 e
    have e1 : becomesErr p c h = errOf p c := by unfold becomesErr; rw [if_neg e]
    have e2 : becomesOf p c h = [] := by unfold becomesOf; rw [e1, if_neg e]
    have e3 : (errOf p c == 0) = false := by rw [beq_eq_false_iff_ne]; exact e
    rw [e1, e2]
    clear s1 s2 e1 e2
    generalize errOf p c = er at *
    refine spec_body Tryz.func36 rfl (fun E hE => ?_); simp only [go_sem, Tryz.ntmps36]
    repeat' (first | (with_reducible (show runOps _ _ _ _ _ _); first | (refine Qo fun K' hK => ?_; simp only [go_sem, *]) | refine run_nil ?_ | (refine Qy rfl rfl rfl fun K' hK => ?_; simp only [go_sem, *]) | (refine Qx rfl rfl rfl ?_; simp only [go_sem, *]) | (refine Qu rfl rfl rfl ?_; simp only [go_sem, *]) | (refine Qi rfl rfl rfl (fun hb K' hK => ?_) (fun hb => ?_) <;> (have hc := hb; try simp only [go_sem] at hc; simp only [go_sem, *]))) | (with_reducible (show Hold _ _ _ _ _); first | refine s_seq rfl ?_ | refine s_block rfl ?_ | refine s_region rfl ?_ | refine s_draw rfl Tryz.mixed (by kernel_rfl) ?_ | refine s_skip rfl ?_ | refine s_exit rfl ?_ | refine s_label rfl ?_ | (refine s_cond rfl ⟨_, rfl, fun hb => ?_, fun hb => ?_⟩ <;> (have hc := hb; try simp only [go_sem] at hc)) | refine s_ret rfl ?_) | (with_reducible (show callA _ _ _ _ _ _); first | (refine call_s (s) ?_ ?_; (focus (simp only [go_sem, *]; done)); simp only [go_sem, *])) | (with_reducible (show indepB _ _ = true ∧ _); refine And.intro (by kernel_rfl) ?_) | (with_reducible (show _ ∧ _); refine And.intro (by omega) ?_) | (refine contA_of hK ?_; clear hK K'; simp only [go_sem, *]) | (simp only [thenA, inBlockA, go_sem, *]))
    all_goals first | contradiction | skip
    (refine ⟨[_, _], [], [], ⟨rfl, rfl, trivial⟩, ?_⟩; simp only [go_sem, *])
end Go.Abs

namespace Go.Abs
open Go Go.Proofs
set_option maxRecDepth 10000
set_option maxHeartbeats 4000000
theorem becomes_one {p : Plan} {kind s : Int} (v : Valid p) (hk : 1 ≤ kind ∧ kind ≤ 3) (hs : 0 ≤ s ∧ s < p.length) {h : House} (hh : h ∈ housesOf p) : becomesErr p (kindC kind s) h = 0 ∧ becomesOf p (kindC kind s) h = [mv1 p kind s h] := by
  have e : errOf p (kindC kind s) = 0 := by unfold errOf; rw [if_pos ((check_zero p).2 v)]; exact can_kindC hk hs
  have e1 : becomesErr p (kindC kind s) h = 0 := by unfold becomesErr; rw [if_pos e, if_pos hh]
  refine ⟨e1, ?_⟩
  unfold becomesOf
  rw [if_pos e1, mv_one hk]; rfl
theorem after_kind {p : Plan} {kind s : Int} (v : Valid p) (hk : 1 ≤ kind ∧ kind ≤ 3) (hs : 0 ≤ s ∧ s < p.length) :
    Spec Tryz.prog 25 [encPlan p, (kindC kind s).enc] [] (.tup [encPlan (afterOf p (kindC kind s)), iV 0]) [] := by
  have e : errOf p (kindC kind s) = 0 := by unfold errOf; rw [if_pos ((check_zero p).2 v)]; exact can_kindC hk hs
  have sa := sp_After p (kindC kind s) (by have := v.len; omega)
  rw [if_pos e, e] at sa
  exact sa
theorem sp_StreetTwice (nums : List Int) (h : nums.length ≤ 4294967296) : Spec Tryz.prog 7 [encInts nums] [] (bV true) [] := by
  have s1 := sp_NewDice nums
  have s2 := sp_PlanOf (newDice nums) 8 h (by omega)
  have v := planOf_ok (d := newDice nums) (houses := 8) (by omega)
  have hl := planOf_list (newDice nums) 8
  generalize planOf (newDice nums) 8 = P at *
  obtain ⟨p, d1⟩ := P
  simp only at s2 v hl
  have hp3 := v.len
  have hp0 := v.ne
  have hct := v.count
  have s3 := sp_To d1 ((p.length : Int) - 1) (by rw [hl]; exact h) (by omega)
  have hr := toN_le (n := (p.length : Int) - 1) (by omega) d1
  have hw0 : IntKind.i64.wrap ((p.length : Int) - 1) = (p.length : Int) - 1 := wrap_i64 (by omega) (by omega)
  obtain ⟨s, hs⟩ : ∃ s : Nat, toN ((p.length : Int) - 1) d1 = s := ⟨(toN ((p.length : Int) - 1) d1).toNat, by omega⟩
  rw [hs] at hr s3
  clear hs
  generalize toD ((p.length : Int) - 1) d1 = d2 at *
  have hsr : 0 ≤ (s : Int) ∧ (s : Int) < p.length := by omega
  have s4 := sp_HousesOf p (by omega) (fun l hl => by have := (v.rows l hl).len; omega) (by have := v.count; omega)
  have sw := sp_walking
  clear hl h
  refine spec_body Tryz.func7 rfl (fun E hE => ?_); simp only [go_sem, Tryz.ntmps7]
  repeat' (first | (with_reducible (show runOps _ _ _ _ _ _); first | (refine Qo fun K' hK => ?_; simp only [go_sem, *]) | refine run_nil ?_ | (refine Qy rfl rfl rfl fun K' hK => ?_; simp only [go_sem, *]) | (refine Qx rfl rfl rfl ?_; simp only [go_sem, *]) | (refine Qu rfl rfl rfl ?_; simp only [go_sem, *]) | (refine Qi rfl rfl rfl (fun hb K' hK => ?_) (fun hb => ?_) <;> (have hc := hb; try simp only [go_sem] at hc; simp only [go_sem, *]))) | (with_reducible (show Hold _ _ _ _ _); first | refine s_seq rfl ?_ | refine s_block rfl ?_ | refine s_region rfl ?_ | refine s_draw rfl Tryz.mixed (by kernel_rfl) ?_ | refine s_skip rfl ?_ | refine s_exit rfl ?_ | refine s_label rfl ?_ | (refine s_cond rfl ⟨_, rfl, fun hb => ?_, fun hb => ?_⟩ <;> (have hc := hb; try simp only [go_sem] at hc)) | refine s_ret rfl ?_) | (with_reducible (show callA _ _ _ _ _ _); first | (refine call_n (s1) ?_ ?_ ?_ ?_; (focus (simp only [go_sem, *]; done)); (focus (first | (simp; done) | (simp [go_sem]; done))); (focus (first | (simp; done) | (simp [go_sem]; done))); simp only [go_sem, *]) | (refine call_of [0] [] (s2) (by simp) ?_ ?_ (by simp) (.inl rfl) ?_ ?_ ?_; (focus (simp only [go_sem, *]; done)); (focus (simp only [go_sem, *]; done)); (focus (first | (simp; done) | (simp [go_sem]; done))); (focus (first | (simp; done) | (simp [go_sem]; done))); simp only [go_sem, *]) | (refine call_of [0] [] (s3) (by simp) ?_ ?_ (by simp) (.inl rfl) ?_ ?_ ?_; (focus (simp only [go_sem, *]; done)); (focus (simp only [go_sem, *]; done)); (focus (first | (simp; done) | (simp [go_sem]; done))); (focus (first | (simp; done) | (simp [go_sem]; done))); simp only [go_sem, *]) | (refine call_n (s4) ?_ ?_ ?_ ?_; (focus (simp only [go_sem, *]; done)); (focus (first | (simp; done) | (simp [go_sem]; done))); (focus (first | (simp; done) | (simp [go_sem]; done))); simp only [go_sem, *])) | (with_reducible (show indepB _ _ = true ∧ _); refine And.intro (by kernel_rfl) ?_) | (with_reducible (show _ ∧ _); refine And.intro (by omega) ?_) | (refine contA_of hK ?_; clear hK K'; simp only [go_sem, *]) | (simp only [thenA, inBlockA, go_sem, *]))
  all_goals first | contradiction | skip
  clear s1 s2 s3 s4
  refine s_loop rfl (fun zn zN zenv zAs => ∃ (i : Nat), zn = (3) - i ∧ i ≤ (3) ∧ (NoP i) ∧ zN = 126 ∧ zenv = [(7, iV ((i : Int) + 1)), (6, .own 1 3 0 (housesOf p).length), (5, iV s), (4, .ptr 0 0)] ∧ zAs = [pBox p, .row 3 ((housesOf p).map House.enc)]) (3) ⟨[some 1, some 2], [], _, _, _, (by (simp only [Weak, go_sem, List.map_append, List.map_set, *] <;> (try simp (disch := omega) only [wrap_succ]) <;> (try simp) <;> (try omega))), 0, (by simp), (by simp), (by trivial), rfl, rfl, rfl⟩ ?_; rintro _ _ _ _ ⟨i, rfl, hi, hP, rfl, rfl, rfl⟩
  have hw1 : i < 3 → IntKind.i64.wrap ((i : Int) + 1 + 1) = (((i + 1 : Nat) : Int) + 1) := fun h => by rw [wrap_i64 (by omega) (by omega)]; omega
  by_cases hi2 : i < 3
  · have hle : ((i : Int) + 1 ≤ 3) := by omega
    have hk : 1 ≤ ((i : Int) + 1) ∧ ((i : Int) + 1) ≤ 3 := by omega
    have hw2 := hw1 hi2
    clear hw1
    have vq := valid_after v (fit_kind hk hsr)
    have hlq : (afterOf p (kindC ((i : Int) + 1) s)).length = p.length := after_len _ _
    have hsq : 0 ≤ (s : Int) ∧ (s : Int) < (afterOf p (kindC ((i : Int) + 1) s)).length := by rw [hlq]; exact hsr
    have sa := after_kind v hk hsr
    have sb := after_kind vq hk hsq
    rw [after_twice v hsr hk] at sb
    have b1 := fun h hh => becomes_one v hk hsr (h := h) hh
    have b2 := fun h hh => becomes_one vq hk hsq (h := h) hh
    have tw := fun h hh => twice v hsr hk (h := h) hh
    have tin := fun h hh => mv1_in v hsr hk (h := h) hh
    have sB1 := fun h (hh : h ∈ housesOf p) => sp_Becomes p (kindC ((i : Int) + 1) s) h (by omega) (v.wf h hh)
    have sB2 := fun h hh => sp_Becomes (afterOf p (kindC ((i : Int) + 1) s)) (kindC ((i : Int) + 1) s) h (by omega) (vq.wf h hh)
    have hq3 := vq.len
    have hqr := vq.rows
    have hpr := v.rows
    generalize hkk : (i : Int) + 1 = kk at *
    generalize afterOf p (kindC kk s) = q at *
    clear vq hkk
    have sE1 := sp_EqPlans q q (by omega) (fun l hl => by have := (hqr l hl).len; omega)
    have sE2 := sp_EqPlans p p (by omega) (fun l hl => by have := (hpr l hl).len; omega)
    simp only [decide_true] at sE1 sE2
    by_cases k3 : kk = 3
    · rw [if_pos k3] at sb
      have k3' : (kk == 3) = true := by rw [beq_iff_eq]; exact k3
      have k3n : (kk != 3) = false := by rw [bne, k3']; rfl
      have tw : ∀ h, h ∈ housesOf p → mv1 q kk s (mv1 p kk s h) = mv1 p kk s h := fun h hh => by rw [tw h hh, if_pos k3]
      simp only [kindC, zeroPlate] at sa sb
      clear k3
      repeat' (first | (with_reducible (show runOps _ _ _ _ _ _); first | (refine Qo fun K' hK => ?_; simp only [go_sem, *]) | refine run_nil ?_ | (refine Qy rfl rfl rfl fun K' hK => ?_; simp only [go_sem, *]) | (refine Qx rfl rfl rfl ?_; simp only [go_sem, *]) | (refine Qu rfl rfl rfl ?_; simp only [go_sem, *]) | (refine Qi rfl rfl rfl (fun hb K' hK => ?_) (fun hb => ?_) <;> (have hc := hb; try simp only [go_sem] at hc; simp only [go_sem, *]))) | (with_reducible (show Hold _ _ _ _ _); first | refine s_seq rfl ?_ | refine s_block rfl ?_ | refine s_region rfl ?_ | refine s_draw rfl Tryz.mixed (by kernel_rfl) ?_ | refine s_skip rfl ?_ | refine s_exit rfl ?_ | refine s_label rfl ?_ | (refine s_cond rfl ⟨_, rfl, fun hb => ?_, fun hb => ?_⟩ <;> (have hc := hb; try simp only [go_sem] at hc)) | refine s_ret rfl ?_) | (with_reducible (show callA _ _ _ _ _ _); first | (refine call_s (sa) ?_ ?_; (focus (simp only [go_sem, *]; done)); simp only [go_sem, *]) | (refine call_s (sb) ?_ ?_; (focus (simp only [go_sem, *]; done)); simp only [go_sem, *]) | (refine call_s (sE1) ?_ ?_; (focus (simp only [go_sem, *]; done)); simp only [go_sem, *]) | (refine call_s (sE2) ?_ ?_; (focus (simp only [go_sem, *]; done)); simp only [go_sem, *])) | (with_reducible (show indepB _ _ = true ∧ _); refine And.intro (by kernel_rfl) ?_) | (with_reducible (show _ ∧ _); refine And.intro (by omega) ?_) | (refine contA_of hK ?_; clear hK K'; simp only [go_sem, *]) | (simp only [thenA, inBlockA, go_sem, *]))
      all_goals first | contradiction | skip
      clear sa sb sE1 sE2
      refine s_loop rfl (fun zn zN zenv zAs => ∃ (j : Nat), zn = ((housesOf p).length) - j ∧ j ≤ ((housesOf p).length) ∧ (NoP j) ∧ zN = 126 ∧ zenv = [(13, iV j), (9, .ptr 3 0), (8, .ptr 2 0), (7, iV kk), (6, .own 1 3 0 (housesOf p).length), (5, iV s), (4, .ptr 0 0)] ∧ zAs = [pBox p, .row 3 ((housesOf p).map House.enc), .box [iV kk, iV s, iV 0, iV 0, iV 0, iV 0, iV 0], pBox q]) ((housesOf p).length) ⟨[some 0, some 1, some 2, some 3], [], _, _, _, (by (simp only [Weak, go_sem, List.map_append, List.map_set, *] <;> (try simp (disch := omega) only [wrap_succ]) <;> (try simp) <;> (try omega))), 0, (by simp), (by simp), (by trivial), rfl, rfl, rfl⟩ ?_; rintro _ _ _ _ ⟨j, rfl, hj, hJ, rfl, rfl, rfl⟩
      by_cases hj2 : j < (housesOf p).length
      · have hm := getD_mem hj2
        have sb1 := sB1 _ hm
        rw [(b1 _ hm).1, (b1 _ hm).2] at sb1
        have hx := tin _ hm
        have sb2 := sB2 _ hx
        rw [(b2 _ hx).1, (b2 _ hx).2, tw _ hm] at sb2
        clear sB1 sB2 b1 b2 tin tw hx hm
        generalize mv1 p kk s ((housesOf p).getD j default) = x at *
        simp only [kindC, zeroPlate] at sb1 sb2
        have sE := sp_EqPlaces [x] [x] (by simp)
        simp only [decide_true] at sE
        repeat' (first | (with_reducible (show runOps _ _ _ _ _ _); first | (refine Qo fun K' hK => ?_; simp only [go_sem, *]) | refine run_nil ?_ | (refine Qy rfl rfl rfl fun K' hK => ?_; simp only [go_sem, *]) | (refine Qx rfl rfl rfl ?_; simp only [go_sem, *]) | (refine Qu rfl rfl rfl ?_; simp only [go_sem, *]) | (refine Qi rfl rfl rfl (fun hb K' hK => ?_) (fun hb => ?_) <;> (have hc := hb; try simp only [go_sem] at hc; simp only [go_sem, *]))) | (with_reducible (show Hold _ _ _ _ _); first | refine s_seq rfl ?_ | refine s_block rfl ?_ | refine s_region rfl ?_ | refine s_draw rfl Tryz.mixed (by kernel_rfl) ?_ | refine s_skip rfl ?_ | refine s_exit rfl ?_ | refine s_label rfl ?_ | (refine s_cond rfl ⟨_, rfl, fun hb => ?_, fun hb => ?_⟩ <;> (have hc := hb; try simp only [go_sem] at hc)) | refine s_ret rfl ?_) | (with_reducible (show callA _ _ _ _ _ _); first | (refine call_s (sb1) ?_ ?_; (focus (simp only [go_sem, *]; done)); simp only [go_sem, *]) | (refine call_s (sb2) ?_ ?_; (focus (simp only [go_sem, *]; done)); simp only [go_sem, *]) | (refine call_fz (sE) ?_ rfl ?_ ?_ ?_ ?_; (focus (simp only [go_sem, *]; done)); (focus (simp only [go_sem, *]; done)); (focus (first | (simp; done) | (simp [go_sem]; done))); (focus (first | (simp; done) | (simp [go_sem]; done))); simp only [go_sem, deads, *])) | (with_reducible (show indepB _ _ = true ∧ _); refine And.intro (by kernel_rfl) ?_) | (with_reducible (show _ ∧ _); refine And.intro (by omega) ?_) | (refine contA_of hK ?_; clear hK K'; simp only [go_sem, *]) | (simp only [thenA, inBlockA, go_sem, *]))
        all_goals first | contradiction | skip
        refine ⟨_, (by omega), [some 0, some 1, some 2, some 3], [], _, _, _, (by (simp only [Weak, go_sem, List.map_append, List.map_set, *] <;> (try simp (disch := omega) only [wrap_succ]) <;> (try simp) <;> (try omega))), j + 1, rfl, (by omega), (by trivial), rfl, rfl, rfl⟩
      · clear sB1 sB2 b1 b2 tin tw
        repeat' (first | (with_reducible (show runOps _ _ _ _ _ _); first | (refine Qo fun K' hK => ?_; simp only [go_sem, *]) | refine run_nil ?_ | (refine Qy rfl rfl rfl fun K' hK => ?_; simp only [go_sem, *]) | (refine Qx rfl rfl rfl ?_; simp only [go_sem, *]) | (refine Qu rfl rfl rfl ?_; simp only [go_sem, *]) | (refine Qi rfl rfl rfl (fun hb K' hK => ?_) (fun hb => ?_) <;> (have hc := hb; try simp only [go_sem] at hc; simp only [go_sem, *]))) | (with_reducible (show Hold _ _ _ _ _); first | refine s_seq rfl ?_ | refine s_block rfl ?_ | refine s_region rfl ?_ | refine s_draw rfl Tryz.mixed (by kernel_rfl) ?_ | refine s_skip rfl ?_ | refine s_exit rfl ?_ | refine s_label rfl ?_ | (refine s_cond rfl ⟨_, rfl, fun hb => ?_, fun hb => ?_⟩ <;> (have hc := hb; try simp only [go_sem] at hc)) | refine s_ret rfl ?_) | (with_reducible (show indepB _ _ = true ∧ _); refine And.intro (by kernel_rfl) ?_) | (with_reducible (show _ ∧ _); refine And.intro (by omega) ?_) | (refine contA_of hK ?_; clear hK K'; simp only [go_sem, *]) | (simp only [thenA, inBlockA, go_sem, *]))
        refine ⟨_, (by omega), [some 0, some 1], [], _, _, _, (by (simp only [Weak, go_sem, List.map_append, List.map_set, *] <;> (try simp (disch := omega) only [wrap_succ]) <;> (try simp) <;> (try omega))), i + 1, rfl, (by omega), (by trivial), rfl, rfl, rfl⟩
    · rw [if_neg k3] at sb
      have k3' : (kk == 3) = false := by rw [beq_eq_false_iff_ne]; exact k3
      have k3n : (kk != 3) = true := by rw [bne, k3']; rfl
      have tw : ∀ h, h ∈ housesOf p → mv1 q kk s (mv1 p kk s h) = h := fun h hh => by rw [tw h hh, if_neg k3]
      simp only [kindC, zeroPlate] at sa sb
      clear k3
      repeat' (first | (with_reducible (show runOps _ _ _ _ _ _); first | (refine Qo fun K' hK => ?_; simp only [go_sem, *]) | refine run_nil ?_ | (refine Qy rfl rfl rfl fun K' hK => ?_; simp only [go_sem, *]) | (refine Qx rfl rfl rfl ?_; simp only [go_sem, *]) | (refine Qu rfl rfl rfl ?_; simp only [go_sem, *]) | (refine Qi rfl rfl rfl (fun hb K' hK => ?_) (fun hb => ?_) <;> (have hc := hb; try simp only [go_sem] at hc; simp only [go_sem, *]))) | (with_reducible (show Hold _ _ _ _ _); first | refine s_seq rfl ?_ | refine s_block rfl ?_ | refine s_region rfl ?_ | refine s_draw rfl Tryz.mixed (by kernel_rfl) ?_ | refine s_skip rfl ?_ | refine s_exit rfl ?_ | refine s_label rfl ?_ | (refine s_cond rfl ⟨_, rfl, fun hb => ?_, fun hb => ?_⟩ <;> (have hc := hb; try simp only [go_sem] at hc)) | refine s_ret rfl ?_) | (with_reducible (show callA _ _ _ _ _ _); first | (refine call_s (sa) ?_ ?_; (focus (simp only [go_sem, *]; done)); simp only [go_sem, *]) | (refine call_s (sb) ?_ ?_; (focus (simp only [go_sem, *]; done)); simp only [go_sem, *]) | (refine call_s (sE1) ?_ ?_; (focus (simp only [go_sem, *]; done)); simp only [go_sem, *]) | (refine call_s (sE2) ?_ ?_; (focus (simp only [go_sem, *]; done)); simp only [go_sem, *])) | (with_reducible (show indepB _ _ = true ∧ _); refine And.intro (by kernel_rfl) ?_) | (with_reducible (show _ ∧ _); refine And.intro (by omega) ?_) | (refine contA_of hK ?_; clear hK K'; simp only [go_sem, *]) | (simp only [thenA, inBlockA, go_sem, *]))
      all_goals first | contradiction | skip
      clear sa sb sE1 sE2
      refine s_loop rfl (fun zn zN zenv zAs => ∃ (j : Nat), zn = ((housesOf p).length) - j ∧ j ≤ ((housesOf p).length) ∧ (NoP j) ∧ zN = 126 ∧ zenv = [(13, iV j), (9, .ptr 3 0), (8, .ptr 2 0), (7, iV kk), (6, .own 1 3 0 (housesOf p).length), (5, iV s), (4, .ptr 0 0)] ∧ zAs = [pBox p, .row 3 ((housesOf p).map House.enc), .box [iV kk, iV s, iV 0, iV 0, iV 0, iV 0, iV 0], pBox q]) ((housesOf p).length) ⟨[some 0, some 1, some 2, some 3], [], _, _, _, (by (simp only [Weak, go_sem, List.map_append, List.map_set, *] <;> (try simp (disch := omega) only [wrap_succ]) <;> (try simp) <;> (try omega))), 0, (by simp), (by simp), (by trivial), rfl, rfl, rfl⟩ ?_; rintro _ _ _ _ ⟨j, rfl, hj, hJ, rfl, rfl, rfl⟩
      by_cases hj2 : j < (housesOf p).length
      · have hm := getD_mem hj2
        have sb1 := sB1 _ hm
        rw [(b1 _ hm).1, (b1 _ hm).2] at sb1
        have hx := tin _ hm
        have sb2 := sB2 _ hx
        rw [(b2 _ hx).1, (b2 _ hx).2, tw _ hm] at sb2
        clear sB1 sB2 b1 b2 tin tw hx hm
        generalize mv1 p kk s ((housesOf p).getD j default) = x at *
        simp only [kindC, zeroPlate] at sb1 sb2
        have sE := sp_EqPlaces [(housesOf p).getD j default] [(housesOf p).getD j default] (by simp)
        simp only [decide_true] at sE
        repeat' (first | (with_reducible (show runOps _ _ _ _ _ _); first | (refine Qo fun K' hK => ?_; simp only [go_sem, *]) | refine run_nil ?_ | (refine Qy rfl rfl rfl fun K' hK => ?_; simp only [go_sem, *]) | (refine Qx rfl rfl rfl ?_; simp only [go_sem, *]) | (refine Qu rfl rfl rfl ?_; simp only [go_sem, *]) | (refine Qi rfl rfl rfl (fun hb K' hK => ?_) (fun hb => ?_) <;> (have hc := hb; try simp only [go_sem] at hc; simp only [go_sem, *]))) | (with_reducible (show Hold _ _ _ _ _); first | refine s_seq rfl ?_ | refine s_block rfl ?_ | refine s_region rfl ?_ | refine s_draw rfl Tryz.mixed (by kernel_rfl) ?_ | refine s_skip rfl ?_ | refine s_exit rfl ?_ | refine s_label rfl ?_ | (refine s_cond rfl ⟨_, rfl, fun hb => ?_, fun hb => ?_⟩ <;> (have hc := hb; try simp only [go_sem] at hc)) | refine s_ret rfl ?_) | (with_reducible (show callA _ _ _ _ _ _); first | (refine call_s (sb1) ?_ ?_; (focus (simp only [go_sem, *]; done)); simp only [go_sem, *]) | (refine call_s (sb2) ?_ ?_; (focus (simp only [go_sem, *]; done)); simp only [go_sem, *]) | (refine call_fz (sE) ?_ rfl ?_ ?_ ?_ ?_; (focus (simp only [go_sem, *]; done)); (focus (simp only [go_sem, *]; done)); (focus (first | (simp; done) | (simp [go_sem]; done))); (focus (first | (simp; done) | (simp [go_sem]; done))); simp only [go_sem, deads, *])) | (with_reducible (show indepB _ _ = true ∧ _); refine And.intro (by kernel_rfl) ?_) | (with_reducible (show _ ∧ _); refine And.intro (by omega) ?_) | (refine contA_of hK ?_; clear hK K'; simp only [go_sem, *]) | (simp only [thenA, inBlockA, go_sem, *]))
        all_goals first | contradiction | skip
        refine ⟨_, (by omega), [some 0, some 1, some 2, some 3], [], _, _, _, (by (simp only [Weak, go_sem, List.map_append, List.map_set, *] <;> (try simp (disch := omega) only [wrap_succ]) <;> (try simp) <;> (try omega))), j + 1, rfl, (by omega), (by trivial), rfl, rfl, rfl⟩
      · clear sB1 sB2 b1 b2 tin tw
        repeat' (first | (with_reducible (show runOps _ _ _ _ _ _); first | (refine Qo fun K' hK => ?_; simp only [go_sem, *]) | refine run_nil ?_ | (refine Qy rfl rfl rfl fun K' hK => ?_; simp only [go_sem, *]) | (refine Qx rfl rfl rfl ?_; simp only [go_sem, *]) | (refine Qu rfl rfl rfl ?_; simp only [go_sem, *]) | (refine Qi rfl rfl rfl (fun hb K' hK => ?_) (fun hb => ?_) <;> (have hc := hb; try simp only [go_sem] at hc; simp only [go_sem, *]))) | (with_reducible (show Hold _ _ _ _ _); first | refine s_seq rfl ?_ | refine s_block rfl ?_ | refine s_region rfl ?_ | refine s_draw rfl Tryz.mixed (by kernel_rfl) ?_ | refine s_skip rfl ?_ | refine s_exit rfl ?_ | refine s_label rfl ?_ | (refine s_cond rfl ⟨_, rfl, fun hb => ?_, fun hb => ?_⟩ <;> (have hc := hb; try simp only [go_sem] at hc)) | refine s_ret rfl ?_) | (with_reducible (show indepB _ _ = true ∧ _); refine And.intro (by kernel_rfl) ?_) | (with_reducible (show _ ∧ _); refine And.intro (by omega) ?_) | (refine contA_of hK ?_; clear hK K'; simp only [go_sem, *]) | (simp only [thenA, inBlockA, go_sem, *]))
        refine ⟨_, (by omega), [some 0, some 1], [], _, _, _, (by (simp only [Weak, go_sem, List.map_append, List.map_set, *] <;> (try simp (disch := omega) only [wrap_succ]) <;> (try simp) <;> (try omega))), i + 1, rfl, (by omega), (by trivial), rfl, rfl, rfl⟩
  · have hle : ¬ ((i : Int) + 1 ≤ 3) := by omega
    clear hw1
    repeat' (first | (with_reducible (show runOps _ _ _ _ _ _); first | (refine Qo fun K' hK => ?_; simp only [go_sem, *]) | refine run_nil ?_ | (refine Qy rfl rfl rfl fun K' hK => ?_; simp only [go_sem, *]) | (refine Qx rfl rfl rfl ?_; simp only [go_sem, *]) | (refine Qu rfl rfl rfl ?_; simp only [go_sem, *]) | (refine Qi rfl rfl rfl (fun hb K' hK => ?_) (fun hb => ?_) <;> (have hc := hb; try simp only [go_sem] at hc; simp only [go_sem, *]))) | (with_reducible (show Hold _ _ _ _ _); first | refine s_seq rfl ?_ | refine s_block rfl ?_ | refine s_region rfl ?_ | refine s_draw rfl Tryz.mixed (by kernel_rfl) ?_ | refine s_skip rfl ?_ | refine s_exit rfl ?_ | refine s_label rfl ?_ | (refine s_cond rfl ⟨_, rfl, fun hb => ?_, fun hb => ?_⟩ <;> (have hc := hb; try simp only [go_sem] at hc)) | refine s_ret rfl ?_) | (with_reducible (show callA _ _ _ _ _ _); first | (refine call_s (sw) ?_ ?_; (focus (simp only [go_sem, *]; done)); simp only [go_sem, *])) | (with_reducible (show indepB _ _ = true ∧ _); refine And.intro (by kernel_rfl) ?_) | (with_reducible (show _ ∧ _); refine And.intro (by omega) ?_) | (refine contA_of hK ?_; clear hK K'; simp only [go_sem, *]) | (simp only [thenA, inBlockA, go_sem, *]))
    (refine ⟨[_], [], [], ⟨rfl, trivial⟩, ?_⟩; simp only [go_sem, *])
end Go.Abs

