/-
  WHAT THE PROOF STANDS ON, PART 6: contracts of the program's functions and the logic that they are proved in. No condition.
-/
import Derived.Test.YtmhleaopjcfjnaaGreatQ5
set_option linter.unusedVariables false
set_option linter.unusedSimpArgs false
set_option linter.unusedSectionVars false
namespace Go.Abs
open Go Go.Proofs
set_option maxRecDepth 10000
set_option maxHeartbeats 4000000
def wideL (p : Plan) : Bool := p.any fun l => decide (20 < l.length)
def wideB (p : Plan) : Bool := decide (20 < p.length) || wideL p
theorem wideL_drop {p : Plan} {i : Nat} (h : i < p.length) : wideL (p.drop i) = (decide (20 < (p.getD i default).length) || wideL (p.drop (i + 1))) := by
  unfold wideL; rw [drop_cons h, List.any_cons]
theorem sp_wide (p : Plan) (h1 : p.length ≤ 4294967296) (W : Bool) (hW : wideB p = W) : Spec Tryz.prog 19 [encPlan p] [] (bV W) [] := by
  unfold wideB at hW
  by_cases q : 20 < p.length
  · have q2 : (p.length : Int) > 20 := by omega
    have e : decide (20 < p.length) = true := by simpa using q
    rw [e, Bool.true_or] at hW
    subst hW
    clear e q
    refine spec_body Tryz.func19 rfl (fun E hE => ?_); simp only [go_sem, Tryz.ntmps19]
    repeat' (first | (with_reducible (show runOps _ _ _ _ _ _); first | (refine Qo fun K' hK => ?_; simp only [go_sem, *]) | refine run_nil ?_ | (refine Qy rfl rfl rfl fun K' hK => ?_; simp only [go_sem, *]) | (refine Qx rfl rfl rfl ?_; simp only [go_sem, *]) | (refine Qu rfl rfl rfl ?_; simp only [go_sem, *]) | (refine Qi rfl rfl rfl (fun hb K' hK => ?_) (fun hb => ?_) <;> (have hc := hb; try simp only [go_sem] at hc; simp only [go_sem, *]))) | (with_reducible (show Hold _ _ _ _ _); first | refine s_seq rfl ?_ | refine s_block rfl ?_ | refine s_region rfl ?_ | refine s_draw rfl Tryz.mixed (by kernel_rfl) ?_ | refine s_skip rfl ?_ | refine s_exit rfl ?_ | refine s_label rfl ?_ | (refine s_cond rfl ⟨_, rfl, fun hb => ?_, fun hb => ?_⟩ <;> (have hc := hb; try simp only [go_sem] at hc)) | refine s_ret rfl ?_) | (with_reducible (show indepB _ _ = true ∧ _); refine And.intro (by kernel_rfl) ?_) | (with_reducible (show _ ∧ _); refine And.intro (by omega) ?_) | (refine contA_of hK ?_; clear hK K'; simp only [go_sem, *]) | (simp only [thenA, inBlockA, go_sem, *]))
    all_goals first | contradiction | omega | skip
    (refine ⟨[_], [], [], ⟨rfl, trivial⟩, ?_⟩; simp only [go_sem, *])
  · have q2 : ¬ (p.length : Int) > 20 := by omega
    have e : decide (20 < p.length) = false := by simpa using q
    rw [e, Bool.false_or] at hW
    have hW0 : wideL (p.drop 0) = W := hW
    clear e hW
    refine spec_body Tryz.func19 rfl (fun E hE => ?_); simp only [go_sem, Tryz.ntmps19]
    repeat' (first | (with_reducible (show runOps _ _ _ _ _ _); first | (refine Qo fun K' hK => ?_; simp only [go_sem, *]) | refine run_nil ?_ | (refine Qy rfl rfl rfl fun K' hK => ?_; simp only [go_sem, *]) | (refine Qx rfl rfl rfl ?_; simp only [go_sem, *]) | (refine Qu rfl rfl rfl ?_; simp only [go_sem, *]) | (refine Qi rfl rfl rfl (fun hb K' hK => ?_) (fun hb => ?_) <;> (have hc := hb; try simp only [go_sem] at hc; simp only [go_sem, *]))) | (with_reducible (show Hold _ _ _ _ _); first | refine s_seq rfl ?_ | refine s_block rfl ?_ | refine s_region rfl ?_ | refine s_draw rfl Tryz.mixed (by kernel_rfl) ?_ | refine s_skip rfl ?_ | refine s_exit rfl ?_ | refine s_label rfl ?_ | (refine s_cond rfl ⟨_, rfl, fun hb => ?_, fun hb => ?_⟩ <;> (have hc := hb; try simp only [go_sem] at hc)) | refine s_ret rfl ?_) | (with_reducible (show indepB _ _ = true ∧ _); refine And.intro (by kernel_rfl) ?_) | (with_reducible (show _ ∧ _); refine And.intro (by omega) ?_) | (refine contA_of hK ?_; clear hK K'; simp only [go_sem, *]) | (simp only [thenA, inBlockA, go_sem, *]))
    all_goals first | contradiction | omega | skip
    refine s_loop rfl (fun zn zN zenv zAs => ∃ (i : Nat), zn = (p.length) - i ∧ i ≤ (p.length) ∧ (wideL (p.drop i) = W) ∧ zN = 22 ∧ zenv = [(3, iV i), (1, .ptr 0 0)] ∧ zAs = [pBox p]) (p.length) ⟨[some 0], [], _, _, _, (by (simp only [Weak, go_sem, List.map_append, List.map_set, *] <;> (try simp (disch := omega) only [wrap_succ]) <;> (try simp) <;> (try omega))), 0, (by simp), (by simp), (by exact hW0), rfl, rfl, rfl⟩ ?_; rintro _ _ _ _ ⟨i, rfl, hi, hP, rfl, rfl, rfl⟩
    by_cases hi2 : i < p.length
    · rw [wideL_drop hi2] at hP
      by_cases r : 20 < (p.getD i default).length
      · have r2 : ((p.getD i default).length : Int) > 20 := by omega
        have e : decide (20 < (p.getD i default).length) = true := by simpa using r
        rw [e, Bool.true_or] at hP
        subst hP
        clear e r
        repeat' (first | (with_reducible (show runOps _ _ _ _ _ _); first | (refine Qo fun K' hK => ?_; simp only [go_sem, *]) | refine run_nil ?_ | (refine Qy rfl rfl rfl fun K' hK => ?_; simp only [go_sem, *]) | (refine Qx rfl rfl rfl ?_; simp only [go_sem, *]) | (refine Qu rfl rfl rfl ?_; simp only [go_sem, *]) | (refine Qi rfl rfl rfl (fun hb K' hK => ?_) (fun hb => ?_) <;> (have hc := hb; try simp only [go_sem] at hc; simp only [go_sem, *]))) | (with_reducible (show Hold _ _ _ _ _); first | refine s_seq rfl ?_ | refine s_block rfl ?_ | refine s_region rfl ?_ | refine s_draw rfl Tryz.mixed (by kernel_rfl) ?_ | refine s_skip rfl ?_ | refine s_exit rfl ?_ | refine s_label rfl ?_ | (refine s_cond rfl ⟨_, rfl, fun hb => ?_, fun hb => ?_⟩ <;> (have hc := hb; try simp only [go_sem] at hc)) | refine s_ret rfl ?_) | (with_reducible (show indepB _ _ = true ∧ _); refine And.intro (by kernel_rfl) ?_) | (with_reducible (show _ ∧ _); refine And.intro (by omega) ?_) | (refine contA_of hK ?_; clear hK K'; simp only [go_sem, *]) | (simp only [thenA, inBlockA, go_sem, *]))
        all_goals first | contradiction | omega | skip
        (refine ⟨[_], [], [], ⟨rfl, trivial⟩, ?_⟩; simp only [go_sem, *])
      · have r2 : ¬ ((p.getD i default).length : Int) > 20 := by omega
        have e : decide (20 < (p.getD i default).length) = false := by simpa using r
        rw [e, Bool.false_or] at hP
        clear e r
        repeat' (first | (with_reducible (show runOps _ _ _ _ _ _); first | (refine Qo fun K' hK => ?_; simp only [go_sem, *]) | refine run_nil ?_ | (refine Qy rfl rfl rfl fun K' hK => ?_; simp only [go_sem, *]) | (refine Qx rfl rfl rfl ?_; simp only [go_sem, *]) | (refine Qu rfl rfl rfl ?_; simp only [go_sem, *]) | (refine Qi rfl rfl rfl (fun hb K' hK => ?_) (fun hb => ?_) <;> (have hc := hb; try simp only [go_sem] at hc; simp only [go_sem, *]))) | (with_reducible (show Hold _ _ _ _ _); first | refine s_seq rfl ?_ | refine s_block rfl ?_ | refine s_region rfl ?_ | refine s_draw rfl Tryz.mixed (by kernel_rfl) ?_ | refine s_skip rfl ?_ | refine s_exit rfl ?_ | refine s_label rfl ?_ | (refine s_cond rfl ⟨_, rfl, fun hb => ?_, fun hb => ?_⟩ <;> (have hc := hb; try simp only [go_sem] at hc)) | refine s_ret rfl ?_) | (with_reducible (show indepB _ _ = true ∧ _); refine And.intro (by kernel_rfl) ?_) | (with_reducible (show _ ∧ _); refine And.intro (by omega) ?_) | (refine contA_of hK ?_; clear hK K'; simp only [go_sem, *]) | (simp only [thenA, inBlockA, go_sem, *]))
        all_goals first | contradiction | omega | skip
        refine ⟨_, (by omega), [some 0], [], _, _, _, (by (simp only [Weak, go_sem, List.map_append, List.map_set, *] <;> (try simp (disch := omega) only [wrap_succ]) <;> (try simp) <;> (try omega))), i + 1, rfl, (by omega), (by exact hP), rfl, rfl, rfl⟩
    · rw [drop_end (by omega)] at hP
      have hP2 : false = W := hP
      subst hP2
      repeat' (first | (with_reducible (show runOps _ _ _ _ _ _); first | (refine Qo fun K' hK => ?_; simp only [go_sem, *]) | refine run_nil ?_ | (refine Qy rfl rfl rfl fun K' hK => ?_; simp only [go_sem, *]) | (refine Qx rfl rfl rfl ?_; simp only [go_sem, *]) | (refine Qu rfl rfl rfl ?_; simp only [go_sem, *]) | (refine Qi rfl rfl rfl (fun hb K' hK => ?_) (fun hb => ?_) <;> (have hc := hb; try simp only [go_sem] at hc; simp only [go_sem, *]))) | (with_reducible (show Hold _ _ _ _ _); first | refine s_seq rfl ?_ | refine s_block rfl ?_ | refine s_region rfl ?_ | refine s_draw rfl Tryz.mixed (by kernel_rfl) ?_ | refine s_skip rfl ?_ | refine s_exit rfl ?_ | refine s_label rfl ?_ | (refine s_cond rfl ⟨_, rfl, fun hb => ?_, fun hb => ?_⟩ <;> (have hc := hb; try simp only [go_sem] at hc)) | refine s_ret rfl ?_) | (with_reducible (show indepB _ _ = true ∧ _); refine And.intro (by kernel_rfl) ?_) | (with_reducible (show _ ∧ _); refine And.intro (by omega) ?_) | (refine contA_of hK ?_; clear hK K'; simp only [go_sem, *]) | (simp only [thenA, inBlockA, go_sem, *]))
      (refine ⟨[_], [], [], ⟨rfl, trivial⟩, ?_⟩; simp only [go_sem, *])
theorem wide_valid {p : Plan} (v : Valid p) : wideB p = false := by
  unfold wideB wideL
  rw [Bool.or_eq_false_iff]
  refine ⟨by simp; have := v.len; omega, ?_⟩
  rw [List.any_eq_false]
  intro l hl
  have := (v.rows l hl).len
  simp; omega
end Go.Abs

namespace Go.Abs
open Go Go.Proofs
set_option maxRecDepth 10000
set_option maxHeartbeats 4000000
attribute [go_sem] diceBox Nat.le_refl Nat.sub_zero Int.reduceGT Nat.reduceGT Int.reduceGE
@[go_sem ↓] theorem intA_xor (a b : Int) (K : Cont) : intA .xor .u64 a b K = K (uV (xor64 a b)) [] [] := rfl
@[go_sem ↓] theorem shiftA_shl (a b : Int) (K : Cont) : shiftA .shl .u64 a b K = (0 ≤ b ∧ K (uV (shl64 a b.toNat)) [] []) := rfl
@[go_sem ↓] theorem shiftA_shr (a b : Int) (K : Cont) : shiftA .shr .u64 a b K = (0 ≤ b ∧ K (uV (shr64 a b.toNat)) [] []) := rfl
@[go_sem] theorem fold_mix1 (s : Int) : xor64 s (shl64 s 13) = mix1 s := rfl
@[go_sem] theorem fold_mix2 (s : Int) : xor64 s (shr64 s 7) = mix2 s := rfl
@[go_sem] theorem fold_mix3 (s : Int) : xor64 s (shl64 s 17) = mix3 s := rfl
@[go_sem] theorem fold_mixed (s : Int) : mix3 (mix2 (mix1 s)) = mixed3 s := rfl
@[go_sem] theorem fold_rawM (n : Int) : IntKind.u64.wrap (xor64 n (shr64 n 30) * 10723151780598845931) = rawM n := rfl
theorem sp_raw (d : Dice) (h : d.list.length ≤ 4294967296) : Spec Tryz.prog 95 [.ptr 0 0] [diceBox d] (uV (rawN d)) [diceBox (rawD d)] := by
  have e2 : (rawD d).list = d.list := rfl
  have e4 : (rawD d).seed = rawS d := rfl
  have e6 : rawN d = xor64 (rawM (rawS d)) (shr64 (rawM (rawS d)) 31) := rfl
  by_cases q : d.at_ < d.list.length
  · have q2 : ((d.at_ : Int) < (d.list.length : Int)) := by omega
    have e1 : rawS d = IntKind.u64.wrap (mixed3 d.seed + IntKind.u64.wrap (IntKind.u64.wrap (d.list.getD d.at_ default) * 13787848793156543929)) := by unfold rawS; rw [if_pos q]
    have e3 : (rawD d).at_ = d.at_ + 1 := by unfold rawD; simp only; rw [if_pos q]
    have e5 : IntKind.i64.wrap ((d.at_ : Int) + 1) = ((d.at_ + 1 : Nat) : Int) := wrap_succ (by omega)
    generalize rawD d = d' at *
    refine spec_body Tryz.func95 rfl (fun E hE => ?_); simp only [go_sem, Tryz.ntmps95]
    repeat' (first | (with_reducible (show runOps _ _ _ _ _ _); first | (refine Qo fun K' hK => ?_; simp only [go_sem, *]) | refine run_nil ?_ | (refine Qy rfl rfl rfl fun K' hK => ?_; simp only [go_sem, *]) | (refine Qx rfl rfl rfl ?_; simp only [go_sem, *]) | (refine Qu rfl rfl rfl ?_; simp only [go_sem, *]) | (refine Qi rfl rfl rfl (fun hb K' hK => ?_) (fun hb => ?_) <;> (have hc := hb; try simp only [go_sem] at hc; simp only [go_sem, *]))) | (with_reducible (show Hold _ _ _ _ _); first | refine s_seq rfl ?_ | refine s_block rfl ?_ | refine s_region rfl ?_ | refine s_draw rfl Tryz.mixed (by kernel_rfl) ?_ | refine s_skip rfl ?_ | refine s_exit rfl ?_ | refine s_label rfl ?_ | (refine s_cond rfl ⟨_, rfl, fun hb => ?_, fun hb => ?_⟩ <;> (have hc := hb; try simp only [go_sem] at hc)) | refine s_ret rfl ?_) | (with_reducible (show indepB _ _ = true ∧ _); refine And.intro (by kernel_rfl) ?_) | (with_reducible (show _ ∧ _); refine And.intro (by omega) ?_) | (refine contA_of hK ?_; clear hK K'; simp only [go_sem, *]) | (simp only [thenA, inBlockA, go_sem, *]))
    all_goals first | contradiction | omega | skip
    refine ⟨[_], [some 0], [], ⟨rfl, trivial⟩, ?_⟩
    simp only [go_sem, *]
  · have q2 : ¬ ((d.at_ : Int) < (d.list.length : Int)) := by omega
    have e1 : rawS d = mixed3 d.seed := by unfold rawS; rw [if_neg q]
    have e3 : (rawD d).at_ = d.at_ := by unfold rawD; simp only; rw [if_neg q]
    generalize rawD d = d' at *
    refine spec_body Tryz.func95 rfl (fun E hE => ?_); simp only [go_sem, Tryz.ntmps95]
    repeat' (first | (with_reducible (show runOps _ _ _ _ _ _); first | (refine Qo fun K' hK => ?_; simp only [go_sem, *]) | refine run_nil ?_ | (refine Qy rfl rfl rfl fun K' hK => ?_; simp only [go_sem, *]) | (refine Qx rfl rfl rfl ?_; simp only [go_sem, *]) | (refine Qu rfl rfl rfl ?_; simp only [go_sem, *]) | (refine Qi rfl rfl rfl (fun hb K' hK => ?_) (fun hb => ?_) <;> (have hc := hb; try simp only [go_sem] at hc; simp only [go_sem, *]))) | (with_reducible (show Hold _ _ _ _ _); first | refine s_seq rfl ?_ | refine s_block rfl ?_ | refine s_region rfl ?_ | refine s_draw rfl Tryz.mixed (by kernel_rfl) ?_ | refine s_skip rfl ?_ | refine s_exit rfl ?_ | refine s_label rfl ?_ | (refine s_cond rfl ⟨_, rfl, fun hb => ?_, fun hb => ?_⟩ <;> (have hc := hb; try simp only [go_sem] at hc)) | refine s_ret rfl ?_) | (with_reducible (show indepB _ _ = true ∧ _); refine And.intro (by kernel_rfl) ?_) | (with_reducible (show _ ∧ _); refine And.intro (by omega) ?_) | (refine contA_of hK ?_; clear hK K'; simp only [go_sem, *]) | (simp only [thenA, inBlockA, go_sem, *]))
    all_goals first | contradiction | omega | skip
    refine ⟨[_], [some 0], [], ⟨rfl, trivial⟩, ?_⟩
    simp only [go_sem, *]
theorem toD_list (n : Int) (d : Dice) : (toD n d).list = d.list := by unfold toD; split <;> rfl
theorem sp_To (d : Dice) (n : Int) (h : d.list.length ≤ 4294967296) (hn : n ≤ 4294967296) : Spec Tryz.prog 30 [.ptr 0 0, iV n] [diceBox d] (iV (toN n d)) [diceBox (toD n d)] := by
  by_cases q : n < 1
  · have e1 : toN n d = 0 := by unfold toN; rw [if_pos q]
    have e2 : toD n d = d := by unfold toD; rw [if_pos q]
    refine spec_body Tryz.func30 rfl (fun E hE => ?_); simp only [go_sem, Tryz.ntmps30]
    repeat' (first | (with_reducible (show runOps _ _ _ _ _ _); first | (refine Qo fun K' hK => ?_; simp only [go_sem, *]) | refine run_nil ?_ | (refine Qy rfl rfl rfl fun K' hK => ?_; simp only [go_sem, *]) | (refine Qx rfl rfl rfl ?_; simp only [go_sem, *]) | (refine Qu rfl rfl rfl ?_; simp only [go_sem, *]) | (refine Qi rfl rfl rfl (fun hb K' hK => ?_) (fun hb => ?_) <;> (have hc := hb; try simp only [go_sem] at hc; simp only [go_sem, *]))) | (with_reducible (show Hold _ _ _ _ _); first | refine s_seq rfl ?_ | refine s_block rfl ?_ | refine s_region rfl ?_ | refine s_draw rfl Tryz.mixed (by kernel_rfl) ?_ | refine s_skip rfl ?_ | refine s_exit rfl ?_ | refine s_label rfl ?_ | (refine s_cond rfl ⟨_, rfl, fun hb => ?_, fun hb => ?_⟩ <;> (have hc := hb; try simp only [go_sem] at hc)) | refine s_ret rfl ?_) | (with_reducible (show indepB _ _ = true ∧ _); refine And.intro (by kernel_rfl) ?_) | (with_reducible (show _ ∧ _); refine And.intro (by omega) ?_) | (refine contA_of hK ?_; clear hK K'; simp only [go_sem, *]) | (simp only [thenA, inBlockA, go_sem, *]))
    all_goals first | contradiction | omega | skip
    refine ⟨[_], [some 0], [], ⟨rfl, trivial⟩, ?_⟩
    simp only [go_sem, *]
  · have e1 : toN n d = (shr64 (rawN d) 16).tmod (n + 1) := by unfold toN; rw [if_neg q]
    have e2 : toD n d = rawD d := by unfold toD; rw [if_neg q]
    have hr := toN_range n d
    rw [e1] at hr
    have e3 : IntKind.i64.wrap (n + 1) = n + 1 := wrap_i64 (by omega) (by omega)
    have e4 : IntKind.u64.wrap (n + 1) = n + 1 := by rw [IntKind.wrap_u64]; omega
    have e5 : IntKind.i64.wrap ((shr64 (rawN d) 16).tmod (n + 1)) = (shr64 (rawN d) 16).tmod (n + 1) := wrap_i64 (by omega) (by omega)
    have e6 : ¬ n + 1 = 0 := by omega
    have sr := sp_raw d h
    generalize rawN d = r at *
    generalize rawD d = d' at *
    clear hr
    refine spec_body Tryz.func30 rfl (fun E hE => ?_); simp only [go_sem, Tryz.ntmps30]
    repeat' (first | (with_reducible (show runOps _ _ _ _ _ _); first | (refine Qo fun K' hK => ?_; simp only [go_sem, *]) | refine run_nil ?_ | (refine Qy rfl rfl rfl fun K' hK => ?_; simp only [go_sem, *]) | (refine Qx rfl rfl rfl ?_; simp only [go_sem, *]) | (refine Qu rfl rfl rfl ?_; simp only [go_sem, *]) | (refine Qi rfl rfl rfl (fun hb K' hK => ?_) (fun hb => ?_) <;> (have hc := hb; try simp only [go_sem] at hc; simp only [go_sem, *]))) | (with_reducible (show Hold _ _ _ _ _); first | refine s_seq rfl ?_ | refine s_block rfl ?_ | refine s_region rfl ?_ | refine s_draw rfl Tryz.mixed (by kernel_rfl) ?_ | refine s_skip rfl ?_ | refine s_exit rfl ?_ | refine s_label rfl ?_ | (refine s_cond rfl ⟨_, rfl, fun hb => ?_, fun hb => ?_⟩ <;> (have hc := hb; try simp only [go_sem] at hc)) | refine s_ret rfl ?_) | (with_reducible (show callA _ _ _ _ _ _); first | (refine call_of [0] [] (sr) (by simp) ?_ ?_ (by simp) (.inl rfl) ?_ ?_ ?_; (focus (simp only [go_sem, *]; done)); (focus (simp only [go_sem, *]; done)); (focus (first | (simp; done) | (simp [go_sem]; done))); (focus (first | (simp; done) | (simp [go_sem]; done))); simp only [go_sem, *])) | (with_reducible (show indepB _ _ = true ∧ _); refine And.intro (by kernel_rfl) ?_) | (with_reducible (show _ ∧ _); refine And.intro (by omega) ?_) | (refine contA_of hK ?_; clear hK K'; simp only [go_sem, *]) | (simp only [thenA, inBlockA, go_sem, *]))
    all_goals first | contradiction | omega | skip
    refine ⟨[_], [some 0], [], ⟨rfl, trivial⟩, ?_⟩
    simp only [go_sem, *]
theorem sp_From (d : Dice) (lo hi : Int) (h : d.list.length ≤ 4294967296) (hl : 0 ≤ lo ∧ lo ≤ hi) (hh : hi ≤ 4294967296) : Spec Tryz.prog 83 [.ptr 0 0, iV lo, iV hi] [diceBox d] (iV (fromN lo hi d)) [diceBox (fromD lo hi d)] := by
  have st := sp_To d (hi - lo) h (by omega)
  have hf := fromN_le hl.2 d
  have e1 : IntKind.i64.wrap (hi - lo) = hi - lo := wrap_i64 (by omega) (by omega)
  have e2 : IntKind.i64.wrap (lo + toN (hi - lo) d) = fromN lo hi d := by
    have : lo + toN (hi - lo) d = fromN lo hi d := rfl
    rw [this]; exact wrap_i64 (by omega) (by omega)
  have e3 : fromD lo hi d = toD (hi - lo) d := rfl
  rw [e3]
  generalize fromN lo hi d = r at *
  clear e3 hf hl
  refine spec_body Tryz.func83 rfl (fun E hE => ?_); simp only [go_sem, Tryz.ntmps83]
  repeat' (first | (with_reducible (show runOps _ _ _ _ _ _); first | (refine Qo fun K' hK => ?_; simp only [go_sem, *]) | refine run_nil ?_ | (refine Qy rfl rfl rfl fun K' hK => ?_; simp only [go_sem, *]) | (refine Qx rfl rfl rfl ?_; simp only [go_sem, *]) | (refine Qu rfl rfl rfl ?_; simp only [go_sem, *]) | (refine Qi rfl rfl rfl (fun hb K' hK => ?_) (fun hb => ?_) <;> (have hc := hb; try simp only [go_sem] at hc; simp only [go_sem, *]))) | (with_reducible (show Hold _ _ _ _ _); first | refine s_seq rfl ?_ | refine s_block rfl ?_ | refine s_region rfl ?_ | refine s_draw rfl Tryz.mixed (by kernel_rfl) ?_ | refine s_skip rfl ?_ | refine s_exit rfl ?_ | refine s_label rfl ?_ | (refine s_cond rfl ⟨_, rfl, fun hb => ?_, fun hb => ?_⟩ <;> (have hc := hb; try simp only [go_sem] at hc)) | refine s_ret rfl ?_) | (with_reducible (show callA _ _ _ _ _ _); first | (refine call_of [0] [] (st) (by simp) ?_ ?_ (by simp) (.inl rfl) ?_ ?_ ?_; (focus (simp only [go_sem, *]; done)); (focus (simp only [go_sem, *]; done)); (focus (first | (simp; done) | (simp [go_sem]; done))); (focus (first | (simp; done) | (simp [go_sem]; done))); simp only [go_sem, *])) | (with_reducible (show indepB _ _ = true ∧ _); refine And.intro (by kernel_rfl) ?_) | (with_reducible (show _ ∧ _); refine And.intro (by omega) ?_) | (refine contA_of hK ?_; clear hK K'; simp only [go_sem, *]) | (simp only [thenA, inBlockA, go_sem, *]))
  refine ⟨[_], [some 0], [], ⟨rfl, trivial⟩, ?_⟩
  simp only [go_sem, *]
theorem sp_Once (d : Dice) (k : Int) (h : d.list.length ≤ 4294967296) (hk : 0 ≤ k ∧ k ≤ 4294967296) : Spec Tryz.prog 84 [.ptr 0 0, iV k] [diceBox d] (bV (onceT k d)) [diceBox (onceR k d)] := by
  have st := sp_To d (k - 1) h (by omega)
  have e1 : IntKind.i64.wrap (k - 1) = k - 1 := wrap_i64 (by omega) (by omega)
  have e2 : onceT k d = (toN (k - 1) d == 0) := rfl
  have e3 : onceR k d = toD (k - 1) d := rfl
  rw [e3, e2]
  clear e2 e3 hk
  refine spec_body Tryz.func84 rfl (fun E hE => ?_); simp only [go_sem, Tryz.ntmps84]
  repeat' (first | (with_reducible (show runOps _ _ _ _ _ _); first | (refine Qo fun K' hK => ?_; simp only [go_sem, *]) | refine run_nil ?_ | (refine Qy rfl rfl rfl fun K' hK => ?_; simp only [go_sem, *]) | (refine Qx rfl rfl rfl ?_; simp only [go_sem, *]) | (refine Qu rfl rfl rfl ?_; simp only [go_sem, *]) | (refine Qi rfl rfl rfl (fun hb K' hK => ?_) (fun hb => ?_) <;> (have hc := hb; try simp only [go_sem] at hc; simp only [go_sem, *]))) | (with_reducible (show Hold _ _ _ _ _); first | refine s_seq rfl ?_ | refine s_block rfl ?_ | refine s_region rfl ?_ | refine s_draw rfl Tryz.mixed (by kernel_rfl) ?_ | refine s_skip rfl ?_ | refine s_exit rfl ?_ | refine s_label rfl ?_ | (refine s_cond rfl ⟨_, rfl, fun hb => ?_, fun hb => ?_⟩ <;> (have hc := hb; try simp only [go_sem] at hc)) | refine s_ret rfl ?_) | (with_reducible (show callA _ _ _ _ _ _); first | (refine call_of [0] [] (st) (by simp) ?_ ?_ (by simp) (.inl rfl) ?_ ?_ ?_; (focus (simp only [go_sem, *]; done)); (focus (simp only [go_sem, *]; done)); (focus (first | (simp; done) | (simp [go_sem]; done))); (focus (first | (simp; done) | (simp [go_sem]; done))); simp only [go_sem, *])) | (with_reducible (show indepB _ _ = true ∧ _); refine And.intro (by kernel_rfl) ?_) | (with_reducible (show _ ∧ _); refine And.intro (by omega) ?_) | (refine contA_of hK ?_; clear hK K'; simp only [go_sem, *]) | (simp only [thenA, inBlockA, go_sem, *]))
  refine ⟨[_], [some 0], [], ⟨rfl, trivial⟩, ?_⟩
  simp only [go_sem, *]
def newDice (l : List Int) : Dice := ⟨l, 0, 11400714819323198485⟩
theorem sp_NewDice (l : List Int) : Spec Tryz.prog 21 [encInts l] [] (.ptr 0 0) [diceBox (newDice l)] := by
  refine spec_body Tryz.func21 rfl (fun E hE => ?_); simp only [go_sem, Tryz.ntmps21]
  repeat' (first | (with_reducible (show runOps _ _ _ _ _ _); first | (refine Qo fun K' hK => ?_; simp only [go_sem, *]) | refine run_nil ?_ | (refine Qy rfl rfl rfl fun K' hK => ?_; simp only [go_sem, *]) | (refine Qx rfl rfl rfl ?_; simp only [go_sem, *]) | (refine Qu rfl rfl rfl ?_; simp only [go_sem, *]) | (refine Qi rfl rfl rfl (fun hb K' hK => ?_) (fun hb => ?_) <;> (have hc := hb; try simp only [go_sem] at hc; simp only [go_sem, *]))) | (with_reducible (show Hold _ _ _ _ _); first | refine s_seq rfl ?_ | refine s_block rfl ?_ | refine s_region rfl ?_ | refine s_draw rfl Tryz.mixed (by kernel_rfl) ?_ | refine s_skip rfl ?_ | refine s_exit rfl ?_ | refine s_label rfl ?_ | (refine s_cond rfl ⟨_, rfl, fun hb => ?_, fun hb => ?_⟩ <;> (have hc := hb; try simp only [go_sem] at hc)) | refine s_ret rfl ?_) | (with_reducible (show indepB _ _ = true ∧ _); refine And.intro (by kernel_rfl) ?_) | (with_reducible (show _ ∧ _); refine And.intro (by omega) ?_) | (refine contA_of hK ?_; clear hK K'; simp only [go_sem, *]) | (simp only [thenA, inBlockA, go_sem, *]))
  refine ⟨[_], [some 0], [], ⟨rfl, trivial⟩, ?_⟩
  simp only [go_sem, newDice, *]
end Go.Abs

namespace Go.Abs
open Go Go.Proofs
set_option maxRecDepth 10000
set_option maxHeartbeats 4000000
theorem fromD_list (a b : Int) (d : Dice) : (fromD a b d).list = d.list := toD_list _ _
theorem onceR_list (k : Int) (d : Dice) : (onceR k d).list = d.list := toD_list _ _
theorem plateN_list (d : Dice) : (plateN d).2.list = d.list := by
  unfold plateN plateK
  split
  · simp only [fromD_list, onceR_list]
  · simp only [fromD_list, onceR_list]
theorem platesN_list : ∀ (n : Nat) (d : Dice) (out : List Plate), (platesN n d out).2.list = d.list
  | 0, d, out => rfl
  | n + 1, d, out => by rw [platesN, platesN_list n]; exact plateN_list d
theorem platesOf_list (d : Dice) (m : Int) : (platesOf d m).2.list = d.list := by unfold platesOf; rw [platesN_list, toD_list]
def PlP (most : Int) (d : Dice) (k : Nat) (dd : Dice) (acc : List Plate) (R : List Plate × Dice) : Prop := platesN k dd acc = R ∧ dd.list.length ≤ 4294967296 ∧ acc.length + k ≤ 8
theorem PlP.next {most : Int} {d dd : Dice} {k : Nat} {acc : List Plate} {R : List Plate × Dice} (h : PlP most d (k + 1) dd acc R) : PlP most d k (plateN dd).2 (insPl (plateN dd).1 acc) R := by
  obtain ⟨h1, h2, h3⟩ := h
  have := insPl_len (x := (plateN dd).1) (l := acc)
  exact ⟨h1, by rw [plateN_list]; exact h2, by omega⟩
def AtP (x : Plate) (acc : List Plate) (j : Nat) : Prop := ∀ m, m < j → (acc.getD m default).lt x = true
theorem AtP.next {x : Plate} {acc : List Plate} {j : Nat} (h : AtP x acc j) (hx : (acc.getD j default).lt x = true) : AtP x acc (j + 1) := fun m hm => by
  rcases Nat.lt_succ_iff_lt_or_eq.1 hm with h1 | rfl
  · exact h m h1
  · exact hx
theorem sp_PlatesOf (d : Dice) (most : Int) (h : d.list.length ≤ 4294967296) (hm : most ≤ 8) :
    Spec Tryz.prog 85 [.ptr 0 0, iV most] [diceBox d] (.list ((platesOf d most).1.map Plate.enc)) [diceBox (platesOf d most).2] := by
  have st := sp_To d most h (by omega)
  have hr := toN_range most d
  obtain ⟨n, hn⟩ : ∃ n : Nat, toN most d = n := ⟨(toN most d).toNat, by omega⟩
  have h0 : PlP most d (n - 0) (toD most d) [] (platesOf d most) := by
    unfold platesOf
    rw [hn]
    exact ⟨by simp, by rw [toD_list]; exact h, by simp; omega⟩
  rw [hn] at st hr
  generalize platesOf d most = R at *
  obtain ⟨RL, RD⟩ := R
  clear hn
  generalize toD most d = d0 at *
  refine spec_body Tryz.func85 rfl (fun E hE => ?_); simp only [go_sem, Tryz.ntmps85]
  repeat' (first | (with_reducible (show runOps _ _ _ _ _ _); first | (refine Qo fun K' hK => ?_; simp only [go_sem, *]) | refine run_nil ?_ | (refine Qy rfl rfl rfl fun K' hK => ?_; simp only [go_sem, *]) | (refine Qx rfl rfl rfl ?_; simp only [go_sem, *]) | (refine Qu rfl rfl rfl ?_; simp only [go_sem, *]) | (refine Qi rfl rfl rfl (fun hb K' hK => ?_) (fun hb => ?_) <;> (have hc := hb; try simp only [go_sem] at hc; simp only [go_sem, *]))) | (with_reducible (show Hold _ _ _ _ _); first | refine s_seq rfl ?_ | refine s_block rfl ?_ | refine s_region rfl ?_ | refine s_draw rfl Tryz.mixed (by kernel_rfl) ?_ | refine s_skip rfl ?_ | refine s_exit rfl ?_ | refine s_label rfl ?_ | (refine s_cond rfl ⟨_, rfl, fun hb => ?_, fun hb => ?_⟩ <;> (have hc := hb; try simp only [go_sem] at hc)) | refine s_ret rfl ?_) | (with_reducible (show callA _ _ _ _ _ _); first | (refine call_of [0] [] (st) (by simp) ?_ ?_ (by simp) (.inl rfl) ?_ ?_ ?_; (focus (simp only [go_sem, *]; done)); (focus (simp only [go_sem, *]; done)); (focus (first | (simp; done) | (simp [go_sem]; done))); (focus (first | (simp; done) | (simp [go_sem]; done))); simp only [go_sem, *])) | (with_reducible (show indepB _ _ = true ∧ _); refine And.intro (by kernel_rfl) ?_) | (with_reducible (show _ ∧ _); refine And.intro (by omega) ?_) | (refine contA_of hK ?_; clear hK K'; simp only [go_sem, *]) | (simp only [thenA, inBlockA, go_sem, *]))
  refine s_loop rfl (fun zn zN zenv zAs => ∃ (i : Nat) (dd : Dice) (acc : List Plate), zn = (n) - i ∧ i ≤ (n) ∧ (PlP most d (n - i) dd acc (RL, RD)) ∧ zN = 63 ∧ zenv = [(6, iV ((n - i : Nat) : Int)), (5, .own 1 2 0 acc.length), (0, .ptr 0 0)] ∧ zAs = [diceBox dd, .row 2 (acc.map Plate.enc)]) (n) ⟨[some 0, none], [], _, _, _, (by (simp only [Weak, go_sem, List.map_append, List.map_set, *] <;> (try simp (disch := omega) only [wrap_succ]) <;> (try simp) <;> (try omega))), 0, d0, [], (by simp), (by simp), (by exact h0), rfl, rfl, rfl⟩ ?_; rintro _ _ _ _ ⟨i, dd, acc, rfl, hi, hP, rfl, rfl, rfl⟩
  clear h0 st
  by_cases hi2 : i < n
  · obtain ⟨k, hk⟩ : ∃ k, n - i = k + 1 := ⟨n - i - 1, by omega⟩
    have hk2 : n - (i + 1) = k := by omega
    rw [hk] at hP ⊢
    have hnx := hP.next
    have hw1 : IntKind.i64.wrap (((k + 1 : Nat) : Int) - 1) = (k : Int) := by rw [wrap_i64 (by omega) (by omega)]; omega
    have hgt : ((k + 1 : Nat) : Int) > 0 := by omega
    obtain ⟨_, hdl, hal⟩ := hP
    have s1 := sp_From dd 1 9 hdl (by omega) (by omega)
    have s2 := sp_Once (fromD 1 9 dd) 4 (by rw [fromD_list]; exact hdl) (by omega)
    have s3 := sp_From (onceR 4 (fromD 1 9 dd)) 1 2 (by rw [onceR_list, fromD_list]; exact hdl) (by omega) (by omega)
    unfold plateN at hnx
    generalize fromN 1 9 dd = x1 at *
    generalize fromD 1 9 dd = d1 at *
    generalize onceR 4 d1 = d2 at *
    generalize fromN 1 2 d2 = x2 at *
    generalize fromD 1 2 d2 = d3 at *
    obtain ⟨⟨x, d'⟩, hxd⟩ : ∃ xd, xd = plateK x1 (onceT 4 d1) x2 d3 d2 := ⟨_, rfl⟩
    rw [← hxd] at hnx
    generalize onceT 4 d1 = b at *
    have hxq : b = true ∧ x = ⟨x1, x2⟩ ∧ d' = d3 ∨ b = false ∧ x = ⟨x1, 0⟩ ∧ d' = d2 := by
      unfold plateK at hxd
      cases b
      · right; simpa using hxd
      · left; simpa using hxd
    clear hxd
    rcases hxq with ⟨rfl, hx, hd⟩ | ⟨rfl, hx, hd⟩
    all_goals repeat' (first | (with_reducible (show runOps _ _ _ _ _ _); first | (refine Qo fun K' hK => ?_; simp only [go_sem, *]) | refine run_nil ?_ | (refine Qy rfl rfl rfl fun K' hK => ?_; simp only [go_sem, *]) | (refine Qx rfl rfl rfl ?_; simp only [go_sem, *]) | (refine Qu rfl rfl rfl ?_; simp only [go_sem, *]) | (refine Qi rfl rfl rfl (fun hb K' hK => ?_) (fun hb => ?_) <;> (have hc := hb; try simp only [go_sem] at hc; simp only [go_sem, *]))) | (with_reducible (show Hold _ _ _ _ _); first | refine s_seq rfl ?_ | refine s_block rfl ?_ | refine s_region rfl ?_ | refine s_draw rfl Tryz.mixed (by kernel_rfl) ?_ | refine s_skip rfl ?_ | refine s_exit rfl ?_ | refine s_label rfl ?_ | (refine s_cond rfl ⟨_, rfl, fun hb => ?_, fun hb => ?_⟩ <;> (have hc := hb; try simp only [go_sem] at hc)) | refine s_ret rfl ?_) | (with_reducible (show callA _ _ _ _ _ _); first | (refine call_of [0] [] (s1) (by simp) ?_ ?_ (by simp) (.inl rfl) ?_ ?_ ?_; (focus (simp only [go_sem, *]; done)); (focus (simp only [go_sem, *]; done)); (focus (first | (simp; done) | (simp [go_sem]; done))); (focus (first | (simp; done) | (simp [go_sem]; done))); simp only [go_sem, *]) | (refine call_of [0] [] (s2) (by simp) ?_ ?_ (by simp) (.inl rfl) ?_ ?_ ?_; (focus (simp only [go_sem, *]; done)); (focus (simp only [go_sem, *]; done)); (focus (first | (simp; done) | (simp [go_sem]; done))); (focus (first | (simp; done) | (simp [go_sem]; done))); simp only [go_sem, *]) | (refine call_of [0] [] (s3) (by simp) ?_ ?_ (by simp) (.inl rfl) ?_ ?_ ?_; (focus (simp only [go_sem, *]; done)); (focus (simp only [go_sem, *]; done)); (focus (first | (simp; done) | (simp [go_sem]; done))); (focus (first | (simp; done) | (simp [go_sem]; done))); simp only [go_sem, *])) | (with_reducible (show indepB _ _ = true ∧ _); refine And.intro (by kernel_rfl) ?_) | (with_reducible (show _ ∧ _); refine And.intro (by omega) ?_) | (refine contA_of hK ?_; clear hK K'; simp only [go_sem, *]) | (simp only [thenA, inBlockA, go_sem, *]))
    all_goals first | contradiction | skip
    all_goals
      have hx1 := congrArg Plate.number hx
      have hx2 := congrArg Plate.letter hx
      simp only at hx1 hx2
      refine hold_weak (N := 63) (env := [(8, iV 0), (7, .ptr 2 0), (6, iV ((k + 1 : Nat) : Int)), (5, .own 1 2 0 acc.length), (0, .ptr 0 0)]) (As := [diceBox d', .row 2 (acc.map Plate.enc), .box [iV x.number, iV x.letter]]) [some 0, some 1, some 2] [] (by (simp only [Weak, go_sem, List.map_append, List.map_set, *] <;> (try simp (disch := omega) only [wrap_succ]) <;> (try simp) <;> (try omega))) ?_
      clear hx hd hx1 hx2 s1 s2 s3 hm hr
      refine s_loop rfl (fun zn zN zenv zAs => ∃ (j : Nat), zn = (acc.length) - j ∧ j ≤ (acc.length) ∧ (AtP x acc j) ∧ zN = 63 ∧ zenv = [(8, iV j), (7, .ptr 2 0), (6, iV ((k + 1 : Nat) : Int)), (5, .own 1 2 0 acc.length), (0, .ptr 0 0)] ∧ zAs = [diceBox d', .row 2 (acc.map Plate.enc), .box [iV x.number, iV x.letter]]) (acc.length) ⟨[some 0, some 1, some 2], [], _, _, _, (by (simp only [Weak, go_sem, List.map_append, List.map_set, *] <;> (try simp (disch := omega) only [wrap_succ]) <;> (try simp) <;> (try omega))), 0, (by simp), (by simp), (by exact fun m hm => absurd hm (by omega)), rfl, rfl, rfl⟩ ?_; rintro _ _ _ _ ⟨j, rfl, hj, hJ, rfl, rfl, rfl⟩
      have hmn : min j acc.length = j := by omega
      have hl2 : j + (acc.length - j + 1) = j + 1 + (acc.length - j) := by omega
      have hdl2 : (List.drop j (List.map Plate.enc acc)).length = acc.length - j := by simp
      have htd : List.take (acc.length - j) (List.drop j (List.map Plate.enc acc)) = List.drop j (List.map Plate.enc acc) := List.take_of_length_le (by simp)
      by_cases hj2 : j < acc.length
      · have hj3 : ((j : Int) == (acc.length : Int)) = false := by simp; omega
        have sb := sp_before (acc.getD j default) x
        by_cases hlt : (acc.getD j default).lt x = true
        · rw [hlt] at sb
          repeat' (first | (with_reducible (show runOps _ _ _ _ _ _); first | (refine Qo fun K' hK => ?_; simp only [go_sem, *]) | refine run_nil ?_ | (refine Qy rfl rfl rfl fun K' hK => ?_; simp only [go_sem, *]) | (refine Qx rfl rfl rfl ?_; simp only [go_sem, *]) | (refine Qu rfl rfl rfl ?_; simp only [go_sem, *]) | (refine Qi rfl rfl rfl (fun hb K' hK => ?_) (fun hb => ?_) <;> (have hc := hb; try simp only [go_sem] at hc; simp only [go_sem, *]))) | (with_reducible (show Hold _ _ _ _ _); first | refine s_seq rfl ?_ | refine s_block rfl ?_ | refine s_region rfl ?_ | refine s_draw rfl Tryz.mixed (by kernel_rfl) ?_ | refine s_skip rfl ?_ | refine s_exit rfl ?_ | refine s_label rfl ?_ | (refine s_cond rfl ⟨_, rfl, fun hb => ?_, fun hb => ?_⟩ <;> (have hc := hb; try simp only [go_sem] at hc)) | refine s_ret rfl ?_) | (with_reducible (show (∀ _ : AV, _ → _) ∧ _); refine And.intro ?_ ?_; (focus (intro y hy; first | (obtain ⟨z, _, rfl⟩ := List.mem_map.1 (hy); simp [go_sem]; done) | (obtain ⟨z, _, rfl⟩ := List.mem_map.1 (List.mem_of_mem_take hy); simp [go_sem]; done) | (obtain ⟨z, _, rfl⟩ := List.mem_map.1 (List.mem_of_mem_drop hy); simp [go_sem]; done) | (obtain ⟨z, _, rfl⟩ := List.mem_map.1 (List.mem_of_mem_drop (List.mem_of_mem_take hy)); simp [go_sem]; done)))) | (with_reducible (show callA _ _ _ _ _ _); first | (refine call_s (sb) ?_ ?_; (focus (simp only [go_sem, *]; done)); simp only [go_sem, *])) | (with_reducible (show indepB _ _ = true ∧ _); refine And.intro (by kernel_rfl) ?_) | (with_reducible (show _ ∧ _); refine And.intro (by omega) ?_) | (refine contA_of hK ?_; clear hK K'; simp only [go_sem, *]) | (simp only [thenA, inBlockA, go_sem, *]))
          all_goals first | contradiction | skip
          refine ⟨_, (by omega), [some 0, some 1, some 2], [], _, _, _, (by (simp only [Weak, go_sem, List.map_append, List.map_set, *] <;> (try simp (disch := omega) only [wrap_succ]) <;> (try simp) <;> (try omega))), j + 1, rfl, (by omega), (by exact hJ.next hlt), rfl, rfl, rfl⟩
        · rw [Bool.not_eq_true] at hlt
          rw [hlt] at sb
          have hin := insPl_at (by omega) hJ (fun _ => hlt)
          by_cases heq : acc.getD j default = x
          · rw [if_pos ⟨hj2, heq⟩] at hin
            rw [hin] at hnx
            clear hin
            have hne : (decide (acc.getD j default = x)) = true := by simpa using heq
            clear heq
            repeat' (first | (with_reducible (show runOps _ _ _ _ _ _); first | (refine Qo fun K' hK => ?_; simp only [go_sem, *]) | refine run_nil ?_ | (refine Qy rfl rfl rfl fun K' hK => ?_; simp only [go_sem, *]) | (refine Qx rfl rfl rfl ?_; simp only [go_sem, *]) | (refine Qu rfl rfl rfl ?_; simp only [go_sem, *]) | (refine Qi rfl rfl rfl (fun hb K' hK => ?_) (fun hb => ?_) <;> (have hc := hb; try simp only [go_sem] at hc; simp only [go_sem, *]))) | (with_reducible (show Hold _ _ _ _ _); first | refine s_seq rfl ?_ | refine s_block rfl ?_ | refine s_region rfl ?_ | refine s_draw rfl Tryz.mixed (by kernel_rfl) ?_ | refine s_skip rfl ?_ | refine s_exit rfl ?_ | refine s_label rfl ?_ | (refine s_cond rfl ⟨_, rfl, fun hb => ?_, fun hb => ?_⟩ <;> (have hc := hb; try simp only [go_sem] at hc)) | refine s_ret rfl ?_) | (with_reducible (show (∀ _ : AV, _ → _) ∧ _); refine And.intro ?_ ?_; (focus (intro y hy; first | (obtain ⟨z, _, rfl⟩ := List.mem_map.1 (hy); simp [go_sem]; done) | (obtain ⟨z, _, rfl⟩ := List.mem_map.1 (List.mem_of_mem_take hy); simp [go_sem]; done) | (obtain ⟨z, _, rfl⟩ := List.mem_map.1 (List.mem_of_mem_drop hy); simp [go_sem]; done) | (obtain ⟨z, _, rfl⟩ := List.mem_map.1 (List.mem_of_mem_drop (List.mem_of_mem_take hy)); simp [go_sem]; done)))) | (with_reducible (show callA _ _ _ _ _ _); first | (refine call_s (sb) ?_ ?_; (focus (simp only [go_sem, *]; done)); simp only [go_sem, *])) | (with_reducible (show indepB _ _ = true ∧ _); refine And.intro (by kernel_rfl) ?_) | (with_reducible (show _ ∧ _); refine And.intro (by omega) ?_) | (refine contA_of hK ?_; clear hK K'; simp only [go_sem, *]) | (simp only [thenA, inBlockA, go_sem, *]))
            all_goals first | contradiction | skip
            refine ⟨_, (by omega), [some 0, some 1], [], _, _, _, (by (simp only [Weak, go_sem, List.map_append, List.map_set, *] <;> (try simp (disch := omega) only [wrap_succ]) <;> (try simp) <;> (try omega))), i + 1, d', acc, rfl, (by omega), (by rw [hk2]; exact hnx), rfl, rfl, rfl⟩
          · rw [if_neg (fun h => heq h.2)] at hin
            rw [hin] at hnx
            clear hin
            have hne : (decide (acc.getD j default = x)) = false := by simpa using heq
            clear heq
            repeat' (first | (with_reducible (show runOps _ _ _ _ _ _); first | (refine Qo fun K' hK => ?_; simp only [go_sem, *]) | refine run_nil ?_ | (refine Qy rfl rfl rfl fun K' hK => ?_; simp only [go_sem, *]) | (refine Qx rfl rfl rfl ?_; simp only [go_sem, *]) | (refine Qu rfl rfl rfl ?_; simp only [go_sem, *]) | (refine Qi rfl rfl rfl (fun hb K' hK => ?_) (fun hb => ?_) <;> (have hc := hb; try simp only [go_sem] at hc; simp only [go_sem, *]))) | (with_reducible (show Hold _ _ _ _ _); first | refine s_seq rfl ?_ | refine s_block rfl ?_ | refine s_region rfl ?_ | refine s_draw rfl Tryz.mixed (by kernel_rfl) ?_ | refine s_skip rfl ?_ | refine s_exit rfl ?_ | refine s_label rfl ?_ | (refine s_cond rfl ⟨_, rfl, fun hb => ?_, fun hb => ?_⟩ <;> (have hc := hb; try simp only [go_sem] at hc)) | refine s_ret rfl ?_) | (with_reducible (show (∀ _ : AV, _ → _) ∧ _); refine And.intro ?_ ?_; (focus (intro y hy; first | (obtain ⟨z, _, rfl⟩ := List.mem_map.1 (hy); simp [go_sem]; done) | (obtain ⟨z, _, rfl⟩ := List.mem_map.1 (List.mem_of_mem_take hy); simp [go_sem]; done) | (obtain ⟨z, _, rfl⟩ := List.mem_map.1 (List.mem_of_mem_drop hy); simp [go_sem]; done) | (obtain ⟨z, _, rfl⟩ := List.mem_map.1 (List.mem_of_mem_drop (List.mem_of_mem_take hy)); simp [go_sem]; done)))) | (with_reducible (show callA _ _ _ _ _ _); first | (refine call_s (sb) ?_ ?_; (focus (simp only [go_sem, *]; done)); simp only [go_sem, *])) | (with_reducible (show indepB _ _ = true ∧ _); refine And.intro (by kernel_rfl) ?_) | (with_reducible (show _ ∧ _); refine And.intro (by omega) ?_) | (refine contA_of hK ?_; clear hK K'; simp only [go_sem, *]) | (simp only [thenA, inBlockA, go_sem, *]))
            all_goals first | contradiction | skip
            refine ⟨_, (by omega), [some 0, some 7], [], _, _, _, (by (simp only [Weak, go_sem, List.map_append, List.map_set, *] <;> (try simp (disch := omega) only [wrap_succ]) <;> (try simp) <;> (try omega))), i + 1, d', acc.take j ++ x :: acc.drop j, rfl, (by omega), (by rw [hk2]; exact hnx), rfl, rfl, rfl⟩
      · have hin := insPl_at (x := x) (l := acc) (k := j) (by omega) hJ (fun h => absurd h hj2)
        rw [if_neg (fun h => hj2 h.1)] at hin
        rw [hin] at hnx
        clear hin
        have hj3 : ((j : Int) == (acc.length : Int)) = true := by simp; omega
        repeat' (first | (with_reducible (show runOps _ _ _ _ _ _); first | (refine Qo fun K' hK => ?_; simp only [go_sem, *]) | refine run_nil ?_ | (refine Qy rfl rfl rfl fun K' hK => ?_; simp only [go_sem, *]) | (refine Qx rfl rfl rfl ?_; simp only [go_sem, *]) | (refine Qu rfl rfl rfl ?_; simp only [go_sem, *]) | (refine Qi rfl rfl rfl (fun hb K' hK => ?_) (fun hb => ?_) <;> (have hc := hb; try simp only [go_sem] at hc; simp only [go_sem, *]))) | (with_reducible (show Hold _ _ _ _ _); first | refine s_seq rfl ?_ | refine s_block rfl ?_ | refine s_region rfl ?_ | refine s_draw rfl Tryz.mixed (by kernel_rfl) ?_ | refine s_skip rfl ?_ | refine s_exit rfl ?_ | refine s_label rfl ?_ | (refine s_cond rfl ⟨_, rfl, fun hb => ?_, fun hb => ?_⟩ <;> (have hc := hb; try simp only [go_sem] at hc)) | refine s_ret rfl ?_) | (with_reducible (show (∀ _ : AV, _ → _) ∧ _); refine And.intro ?_ ?_; (focus (intro y hy; first | (obtain ⟨z, _, rfl⟩ := List.mem_map.1 (hy); simp [go_sem]; done) | (obtain ⟨z, _, rfl⟩ := List.mem_map.1 (List.mem_of_mem_take hy); simp [go_sem]; done) | (obtain ⟨z, _, rfl⟩ := List.mem_map.1 (List.mem_of_mem_drop hy); simp [go_sem]; done) | (obtain ⟨z, _, rfl⟩ := List.mem_map.1 (List.mem_of_mem_drop (List.mem_of_mem_take hy)); simp [go_sem]; done)))) | (with_reducible (show indepB _ _ = true ∧ _); refine And.intro (by kernel_rfl) ?_) | (with_reducible (show _ ∧ _); refine And.intro (by omega) ?_) | (refine contA_of hK ?_; clear hK K'; simp only [go_sem, *]) | (simp only [thenA, inBlockA, go_sem, *]))
        all_goals first | contradiction | skip
        refine ⟨_, (by omega), [some 0, some 7], [], _, _, _, (by (simp only [Weak, go_sem, List.map_append, List.map_set, *] <;> (try simp (disch := omega) only [wrap_succ]) <;> (try simp) <;> (try omega))), i + 1, d', acc.take j ++ x :: acc.drop j, rfl, (by omega), (by rw [hk2]; exact hnx), rfl, rfl, rfl⟩
  · have hni : n - i = 0 := by omega
    rw [hni] at hP ⊢
    obtain ⟨e, _, _⟩ := hP
    rw [platesN] at e
    cases e
    repeat' (first | (with_reducible (show runOps _ _ _ _ _ _); first | (refine Qo fun K' hK => ?_; simp only [go_sem, *]) | refine run_nil ?_ | (refine Qy rfl rfl rfl fun K' hK => ?_; simp only [go_sem, *]) | (refine Qx rfl rfl rfl ?_; simp only [go_sem, *]) | (refine Qu rfl rfl rfl ?_; simp only [go_sem, *]) | (refine Qi rfl rfl rfl (fun hb K' hK => ?_) (fun hb => ?_) <;> (have hc := hb; try simp only [go_sem] at hc; simp only [go_sem, *]))) | (with_reducible (show Hold _ _ _ _ _); first | refine s_seq rfl ?_ | refine s_block rfl ?_ | refine s_region rfl ?_ | refine s_draw rfl Tryz.mixed (by kernel_rfl) ?_ | refine s_skip rfl ?_ | refine s_exit rfl ?_ | refine s_label rfl ?_ | (refine s_cond rfl ⟨_, rfl, fun hb => ?_, fun hb => ?_⟩ <;> (have hc := hb; try simp only [go_sem] at hc)) | refine s_ret rfl ?_) | (with_reducible (show indepB _ _ = true ∧ _); refine And.intro (by kernel_rfl) ?_) | (with_reducible (show _ ∧ _); refine And.intro (by omega) ?_) | (refine contA_of hK ?_; clear hK K'; simp only [go_sem, *]) | (simp only [thenA, inBlockA, go_sem, *]))
    refine ⟨[_], [some 0], [1], ⟨rfl, trivial⟩, ?_⟩
    simp only [go_sem, *]
end Go.Abs

namespace Go.Abs
open Go Go.Proofs
set_option maxRecDepth 10000
set_option maxHeartbeats 4000000
theorem streetN_list (d : Dice) (h : Int) : (streetN d h).2.list = d.list := by unfold streetN; rw [platesOf_list, onceR_list]
theorem streetsN_list (h : Int) : ∀ (n : Nat) (d : Dice) (out : Plan), (streetsN h n d out).2.list = d.list
  | 0, d, out => rfl
  | n + 1, d, out => by rw [streetsN, streetsN_list h n]; exact streetN_list d h
theorem planOf_list (d : Dice) (h : Int) : (planOf d h).2.list = d.list := by unfold planOf; rw [streetsN_list, fromD_list]
def StP (houses : Int) (k : Nat) (dd : Dice) (acc : Plan) (R : Plan × Dice) : Prop := streetsN houses k dd acc = R ∧ dd.list.length ≤ 4294967296 ∧ acc.length + k ≤ 3
theorem StP.next {houses : Int} {dd : Dice} {k : Nat} {acc : Plan} {R : Plan × Dice} (h : StP houses (k + 1) dd acc R) : StP houses k (streetN dd houses).2 (acc ++ [(streetN dd houses).1]) R := by
  obtain ⟨h1, h2, h3⟩ := h
  exact ⟨h1, by rw [streetN_list]; exact h2, by simp; omega⟩
theorem sp_PlanOf (d : Dice) (houses : Int) (h : d.list.length ≤ 4294967296) (hm : houses ≤ 8) :
    Spec Tryz.prog 22 [.ptr 0 0, iV houses] [diceBox d] (encPlan (planOf d houses).1) [diceBox (planOf d houses).2] := by
  have st := sp_From d 1 3 h (by omega) (by omega)
  have hr := fromN_le (lo := 1) (hi := 3) (by omega) d
  obtain ⟨n, hn⟩ : ∃ n : Nat, fromN 1 3 d = n := ⟨(fromN 1 3 d).toNat, by omega⟩
  have h0 : StP houses (n - 0) (fromD 1 3 d) [] (planOf d houses) := by
    unfold planOf
    rw [hn]
    exact ⟨by simp, by rw [fromD_list]; exact h, by simp; omega⟩
  rw [hn] at st hr
  generalize planOf d houses = R at *
  obtain ⟨RL, RD⟩ := R
  clear hn
  generalize fromD 1 3 d = d0 at *
  refine spec_body Tryz.func22 rfl (fun E hE => ?_); simp only [go_sem, Tryz.ntmps22]
  repeat' (first | (with_reducible (show runOps _ _ _ _ _ _); first | (refine Qo fun K' hK => ?_; simp only [go_sem, *]) | refine run_nil ?_ | (refine Qy rfl rfl rfl fun K' hK => ?_; simp only [go_sem, *]) | (refine Qx rfl rfl rfl ?_; simp only [go_sem, *]) | (refine Qu rfl rfl rfl ?_; simp only [go_sem, *]) | (refine Qi rfl rfl rfl (fun hb K' hK => ?_) (fun hb => ?_) <;> (have hc := hb; try simp only [go_sem] at hc; simp only [go_sem, *]))) | (with_reducible (show Hold _ _ _ _ _); first | refine s_seq rfl ?_ | refine s_block rfl ?_ | refine s_region rfl ?_ | refine s_draw rfl Tryz.mixed (by kernel_rfl) ?_ | refine s_skip rfl ?_ | refine s_exit rfl ?_ | refine s_label rfl ?_ | (refine s_cond rfl ⟨_, rfl, fun hb => ?_, fun hb => ?_⟩ <;> (have hc := hb; try simp only [go_sem] at hc)) | refine s_ret rfl ?_) | (with_reducible (show callA _ _ _ _ _ _); first | (refine call_of [0] [] (st) (by simp) ?_ ?_ (by simp) (.inl rfl) ?_ ?_ ?_; (focus (simp only [go_sem, *]; done)); (focus (simp only [go_sem, *]; done)); (focus (first | (simp; done) | (simp [go_sem]; done))); (focus (first | (simp; done) | (simp [go_sem]; done))); simp only [go_sem, *])) | (with_reducible (show indepB _ _ = true ∧ _); refine And.intro (by kernel_rfl) ?_) | (with_reducible (show _ ∧ _); refine And.intro (by omega) ?_) | (refine contA_of hK ?_; clear hK K'; simp only [go_sem, *]) | (simp only [thenA, inBlockA, go_sem, *]))
  refine s_loop rfl (fun zn zN zenv zAs => ∃ (i : Nat) (dd : Dice) (acc : Plan), zn = (n) - i ∧ i ≤ (n) ∧ (StP houses (n - i) dd acc (RL, RD)) ∧ zN = 26 ∧ zenv = [(6, iV ((n - i : Nat) : Int)), (5, .ptr 2 0), (4, .ptr 1 0), (1, iV houses), (0, .ptr 0 0)] ∧ zAs = [diceBox dd, .box [nilV], .box [.own 3 1 0 acc.length], .box (acc.map encStreet)]) (n) ⟨[some 0, some 1, some 2, none], [], _, _, _, (by (simp only [Weak, go_sem, List.map_append, List.map_set, *] <;> (try simp (disch := omega) only [wrap_succ]) <;> (try simp) <;> (try omega))), 0, d0, [], (by simp), (by simp), (by exact h0), rfl, rfl, rfl⟩ ?_; rintro _ _ _ _ ⟨i, dd, acc, rfl, hi, hP, rfl, rfl, rfl⟩
  clear h0 st
  by_cases hi2 : i < n
  · obtain ⟨k, hk⟩ : ∃ k, n - i = k + 1 := ⟨n - i - 1, by omega⟩
    have hk2 : n - (i + 1) = k := by omega
    rw [hk] at hP ⊢
    have hnx := hP.next
    have hw1 : IntKind.i64.wrap (((k + 1 : Nat) : Int) - 1) = (k : Int) := by rw [wrap_i64 (by omega) (by omega)]; omega
    have hgt : ((k + 1 : Nat) : Int) > 0 := by omega
    obtain ⟨_, hdl, hal⟩ := hP
    have s2 := sp_Once dd 3 hdl (by omega)
    have hol : (onceR 3 dd).list.length ≤ 4294967296 := by rw [onceR_list]; exact hdl
    unfold streetN at hnx
    generalize onceR 3 dd = d2 at *
    by_cases b : onceT 3 dd = true
    · rw [if_pos b] at hnx
      rw [b] at s2
      clear b
      have s3 := sp_PlatesOf d2 0 hol (by omega)
      generalize platesOf d2 0 = L at *
      obtain ⟨l, d3⟩ := L
      have hnx2 : StP houses k d3 (acc ++ [l]) (RL, RD) := hnx
      clear hnx
      simp only at s3
      repeat' (first | (with_reducible (show runOps _ _ _ _ _ _); first | (refine Qo fun K' hK => ?_; simp only [go_sem, *]) | refine run_nil ?_ | (refine Qy rfl rfl rfl fun K' hK => ?_; simp only [go_sem, *]) | (refine Qx rfl rfl rfl ?_; simp only [go_sem, *]) | (refine Qu rfl rfl rfl ?_; simp only [go_sem, *]) | (refine Qi rfl rfl rfl (fun hb K' hK => ?_) (fun hb => ?_) <;> (have hc := hb; try simp only [go_sem] at hc; simp only [go_sem, *]))) | (with_reducible (show Hold _ _ _ _ _); first | refine s_seq rfl ?_ | refine s_block rfl ?_ | refine s_region rfl ?_ | refine s_draw rfl Tryz.mixed (by kernel_rfl) ?_ | refine s_skip rfl ?_ | refine s_exit rfl ?_ | refine s_label rfl ?_ | (refine s_cond rfl ⟨_, rfl, fun hb => ?_, fun hb => ?_⟩ <;> (have hc := hb; try simp only [go_sem] at hc)) | refine s_ret rfl ?_) | (with_reducible (show callA _ _ _ _ _ _); first | (refine call_of [0] [] (s2) (by simp) ?_ ?_ (by simp) (.inl rfl) ?_ ?_ ?_; (focus (simp only [go_sem, *]; done)); (focus (simp only [go_sem, *]; done)); (focus (first | (simp; done) | (simp [go_sem]; done))); (focus (first | (simp; done) | (simp [go_sem]; done))); simp only [go_sem, *]) | (refine call_of [0] [] (s3) (by simp) ?_ ?_ (by simp) (.inl rfl) ?_ ?_ ?_; (focus (simp only [go_sem, *]; done)); (focus (simp only [go_sem, *]; done)); (focus (first | (simp; done) | (simp [go_sem]; done))); (focus (first | (simp; done) | (simp [go_sem]; done))); simp only [go_sem, *])) | (with_reducible (show indepB _ _ = true ∧ _); refine And.intro (by kernel_rfl) ?_) | (with_reducible (show _ ∧ _); refine And.intro (by omega) ?_) | (refine contA_of hK ?_; clear hK K'; simp only [go_sem, *]) | (simp only [thenA, inBlockA, go_sem, *]))
      all_goals first | contradiction | skip
      refine ⟨_, (by omega), [some 0, some 1, some 2, some 5], [], _, _, _, (by (simp only [Weak, go_sem, List.map_append, List.map_set, *] <;> (try simp (disch := omega) only [wrap_succ]) <;> (try simp) <;> (try omega))), i + 1, d3, acc ++ [l], rfl, (by omega), (by rw [hk2]; exact hnx2), rfl, rfl, rfl⟩
    · rw [if_neg b] at hnx
      rw [Bool.not_eq_true] at b
      rw [b] at s2
      clear b
      have s3 := sp_PlatesOf d2 houses hol hm
      generalize platesOf d2 houses = L at *
      obtain ⟨l, d3⟩ := L
      have hnx2 : StP houses k d3 (acc ++ [l]) (RL, RD) := hnx
      clear hnx
      simp only at s3
      repeat' (first | (with_reducible (show runOps _ _ _ _ _ _); first | (refine Qo fun K' hK => ?_; simp only [go_sem, *]) | refine run_nil ?_ | (refine Qy rfl rfl rfl fun K' hK => ?_; simp only [go_sem, *]) | (refine Qx rfl rfl rfl ?_; simp only [go_sem, *]) | (refine Qu rfl rfl rfl ?_; simp only [go_sem, *]) | (refine Qi rfl rfl rfl (fun hb K' hK => ?_) (fun hb => ?_) <;> (have hc := hb; try simp only [go_sem] at hc; simp only [go_sem, *]))) | (with_reducible (show Hold _ _ _ _ _); first | refine s_seq rfl ?_ | refine s_block rfl ?_ | refine s_region rfl ?_ | refine s_draw rfl Tryz.mixed (by kernel_rfl) ?_ | refine s_skip rfl ?_ | refine s_exit rfl ?_ | refine s_label rfl ?_ | (refine s_cond rfl ⟨_, rfl, fun hb => ?_, fun hb => ?_⟩ <;> (have hc := hb; try simp only [go_sem] at hc)) | refine s_ret rfl ?_) | (with_reducible (show callA _ _ _ _ _ _); first | (refine call_of [0] [] (s2) (by simp) ?_ ?_ (by simp) (.inl rfl) ?_ ?_ ?_; (focus (simp only [go_sem, *]; done)); (focus (simp only [go_sem, *]; done)); (focus (first | (simp; done) | (simp [go_sem]; done))); (focus (first | (simp; done) | (simp [go_sem]; done))); simp only [go_sem, *]) | (refine call_of [0] [] (s3) (by simp) ?_ ?_ (by simp) (.inl rfl) ?_ ?_ ?_; (focus (simp only [go_sem, *]; done)); (focus (simp only [go_sem, *]; done)); (focus (first | (simp; done) | (simp [go_sem]; done))); (focus (first | (simp; done) | (simp [go_sem]; done))); simp only [go_sem, *])) | (with_reducible (show indepB _ _ = true ∧ _); refine And.intro (by kernel_rfl) ?_) | (with_reducible (show _ ∧ _); refine And.intro (by omega) ?_) | (refine contA_of hK ?_; clear hK K'; simp only [go_sem, *]) | (simp only [thenA, inBlockA, go_sem, *]))
      all_goals first | contradiction | skip
      refine ⟨_, (by omega), [some 0, some 1, some 2, some 5], [], _, _, _, (by (simp only [Weak, go_sem, List.map_append, List.map_set, *] <;> (try simp (disch := omega) only [wrap_succ]) <;> (try simp) <;> (try omega))), i + 1, d3, acc ++ [l], rfl, (by omega), (by rw [hk2]; exact hnx2), rfl, rfl, rfl⟩
  · have hni : n - i = 0 := by omega
    rw [hni] at hP ⊢
    obtain ⟨e, _, _⟩ := hP
    rw [streetsN] at e
    cases e
    repeat' (first | (with_reducible (show runOps _ _ _ _ _ _); first | (refine Qo fun K' hK => ?_; simp only [go_sem, *]) | refine run_nil ?_ | (refine Qy rfl rfl rfl fun K' hK => ?_; simp only [go_sem, *]) | (refine Qx rfl rfl rfl ?_; simp only [go_sem, *]) | (refine Qu rfl rfl rfl ?_; simp only [go_sem, *]) | (refine Qi rfl rfl rfl (fun hb K' hK => ?_) (fun hb => ?_) <;> (have hc := hb; try simp only [go_sem] at hc; simp only [go_sem, *]))) | (with_reducible (show Hold _ _ _ _ _); first | refine s_seq rfl ?_ | refine s_block rfl ?_ | refine s_region rfl ?_ | refine s_draw rfl Tryz.mixed (by kernel_rfl) ?_ | refine s_skip rfl ?_ | refine s_exit rfl ?_ | refine s_label rfl ?_ | (refine s_cond rfl ⟨_, rfl, fun hb => ?_, fun hb => ?_⟩ <;> (have hc := hb; try simp only [go_sem] at hc)) | refine s_ret rfl ?_) | (with_reducible (show indepB _ _ = true ∧ _); refine And.intro (by kernel_rfl) ?_) | (with_reducible (show _ ∧ _); refine And.intro (by omega) ?_) | (refine contA_of hK ?_; clear hK K'; simp only [go_sem, *]) | (simp only [thenA, inBlockA, go_sem, *]))
    refine ⟨[.agg [.own 3 1 0 (List.length RL)]], [some 0], [3], ⟨by simp only [resOne, go_sem], trivial⟩, ?_⟩
    simp only [go_sem, *]
    simp
end Go.Abs

namespace Go.Abs
open Go Go.Proofs
set_option maxRecDepth 10000
set_option maxHeartbeats 4000000
theorem somePlate_list (d : Dice) (l : List Plate) : (somePlate d l).2.list = d.list := by
  unfold somePlate
  split
  · exact toD_list _ _
  · split
    · show (fromD 1 9 (onceR 12 d)).list = _
      unfold fromD onceR; rw [toD_list, toD_list]
    · show (toD _ (onceR 12 d)).list = _
      unfold onceR; rw [toD_list, toD_list]
theorem sp_plateOf (d : Dice) (l : List Plate) (h : d.list.length ≤ 4294967296) (hl : l.length ≤ 4294967296) :
    Spec Tryz.prog 86 [.ptr 0 0, encStreet l] [diceBox d] (Plate.enc (somePlate d l).1) [diceBox (somePlate d l).2] := by
  have ho : (onceR 12 d).list.length ≤ 4294967296 := by unfold onceR; rw [toD_list]; exact h
  by_cases q : l.length = 0
  · have s1 := sp_From d 1 9 h (by omega) (by omega)
    have e : somePlate d l = (⟨fromN 1 9 d, 0⟩, fromD 1 9 d) := by unfold somePlate; rw [if_pos q]
    rw [e]
    have q2 : ((l.length : Int) == 0) = true := by rw [beq_iff_eq]; omega
    clear e
    generalize fromN 1 9 d = x1 at *
    generalize fromD 1 9 d = d1 at *
    refine spec_body Tryz.func86 rfl (fun E hE => ?_); simp only [go_sem, Tryz.ntmps86]
    repeat' (first | (with_reducible (show runOps _ _ _ _ _ _); first | (refine Qo fun K' hK => ?_; simp only [go_sem, *]) | refine run_nil ?_ | (refine Qy rfl rfl rfl fun K' hK => ?_; simp only [go_sem, *]) | (refine Qx rfl rfl rfl ?_; simp only [go_sem, *]) | (refine Qu rfl rfl rfl ?_; simp only [go_sem, *]) | (refine Qi rfl rfl rfl (fun hb K' hK => ?_) (fun hb => ?_) <;> (have hc := hb; try simp only [go_sem] at hc; simp only [go_sem, *]))) | (with_reducible (show Hold _ _ _ _ _); first | refine s_seq rfl ?_ | refine s_block rfl ?_ | refine s_region rfl ?_ | refine s_draw rfl Tryz.mixed (by kernel_rfl) ?_ | refine s_skip rfl ?_ | refine s_exit rfl ?_ | refine s_label rfl ?_ | (refine s_cond rfl ⟨_, rfl, fun hb => ?_, fun hb => ?_⟩ <;> (have hc := hb; try simp only [go_sem] at hc)) | refine s_ret rfl ?_) | (with_reducible (show callA _ _ _ _ _ _); first | (refine call_of [0] [] (s1) (by simp) ?_ ?_ (by simp) (.inl rfl) ?_ ?_ ?_; (focus (simp only [go_sem, *]; done)); (focus (simp only [go_sem, *]; done)); (focus (first | (simp; done) | (simp [go_sem]; done))); (focus (first | (simp; done) | (simp [go_sem]; done))); simp only [go_sem, *])) | (with_reducible (show indepB _ _ = true ∧ _); refine And.intro (by kernel_rfl) ?_) | (with_reducible (show _ ∧ _); refine And.intro (by omega) ?_) | (refine contA_of hK ?_; clear hK K'; simp only [go_sem, *]) | (simp only [thenA, inBlockA, go_sem, *]))
    all_goals first | contradiction | skip
    refine ⟨[.agg [iV x1, iV 0]], [some 0], [], ⟨by simp only [resOne, go_sem], trivial⟩, ?_⟩
    simp only [go_sem, *]
  · have q2 : ((l.length : Int) == 0) = false := by rw [beq_eq_false_iff_ne]; omega
    have so := sp_Once d 12 h (by omega)
    have e : somePlate d l = if onceT 12 d = true then (⟨fromN 1 9 (onceR 12 d), 0⟩, fromD 1 9 (onceR 12 d)) else (l.getD (toN (l.length - 1) (onceR 12 d)).toNat default, toD (l.length - 1) (onceR 12 d)) := by unfold somePlate; rw [if_neg q]
    rw [e]
    clear e
    generalize onceR 12 d = d1 at *
    by_cases b : onceT 12 d = true
    · have s1 := sp_From d1 1 9 ho (by omega) (by omega)
      rw [if_pos b]
      rw [b] at so
      clear b
      generalize fromN 1 9 d1 = x1 at *
      generalize fromD 1 9 d1 = d2 at *
      refine spec_body Tryz.func86 rfl (fun E hE => ?_); simp only [go_sem, Tryz.ntmps86]
      repeat' (first | (with_reducible (show runOps _ _ _ _ _ _); first | (refine Qo fun K' hK => ?_; simp only [go_sem, *]) | refine run_nil ?_ | (refine Qy rfl rfl rfl fun K' hK => ?_; simp only [go_sem, *]) | (refine Qx rfl rfl rfl ?_; simp only [go_sem, *]) | (refine Qu rfl rfl rfl ?_; simp only [go_sem, *]) | (refine Qi rfl rfl rfl (fun hb K' hK => ?_) (fun hb => ?_) <;> (have hc := hb; try simp only [go_sem] at hc; simp only [go_sem, *]))) | (with_reducible (show Hold _ _ _ _ _); first | refine s_seq rfl ?_ | refine s_block rfl ?_ | refine s_region rfl ?_ | refine s_draw rfl Tryz.mixed (by kernel_rfl) ?_ | refine s_skip rfl ?_ | refine s_exit rfl ?_ | refine s_label rfl ?_ | (refine s_cond rfl ⟨_, rfl, fun hb => ?_, fun hb => ?_⟩ <;> (have hc := hb; try simp only [go_sem] at hc)) | refine s_ret rfl ?_) | (with_reducible (show callA _ _ _ _ _ _); first | (refine call_of [0] [] (so) (by simp) ?_ ?_ (by simp) (.inl rfl) ?_ ?_ ?_; (focus (simp only [go_sem, *]; done)); (focus (simp only [go_sem, *]; done)); (focus (first | (simp; done) | (simp [go_sem]; done))); (focus (first | (simp; done) | (simp [go_sem]; done))); simp only [go_sem, *]) | (refine call_of [0] [] (s1) (by simp) ?_ ?_ (by simp) (.inl rfl) ?_ ?_ ?_; (focus (simp only [go_sem, *]; done)); (focus (simp only [go_sem, *]; done)); (focus (first | (simp; done) | (simp [go_sem]; done))); (focus (first | (simp; done) | (simp [go_sem]; done))); simp only [go_sem, *])) | (with_reducible (show indepB _ _ = true ∧ _); refine And.intro (by kernel_rfl) ?_) | (with_reducible (show _ ∧ _); refine And.intro (by omega) ?_) | (refine contA_of hK ?_; clear hK K'; simp only [go_sem, *]) | (simp only [thenA, inBlockA, go_sem, *]))
      all_goals first | contradiction | skip
      refine ⟨[.agg [iV x1, iV 0]], [some 0], [], ⟨by simp only [resOne, go_sem], trivial⟩, ?_⟩
      simp only [go_sem, *]
    · rw [if_neg b]
      rw [Bool.not_eq_true] at b
      rw [b] at so
      clear b
      have s1 := sp_To d1 ((l.length : Int) - 1) ho (by omega)
      have hr := toN_le (n := (l.length : Int) - 1) (by omega) d1
      have hw : IntKind.i64.wrap ((l.length : Int) - 1) = (l.length : Int) - 1 := wrap_i64 (by omega) (by omega)
      obtain ⟨k, hk⟩ : ∃ k : Nat, toN ((l.length : Int) - 1) d1 = k := ⟨(toN ((l.length : Int) - 1) d1).toNat, by omega⟩
      rw [hk] at hr s1 ⊢
      have hkl : k < l.length := by omega
      simp only [Int.toNat_natCast]
      clear hk hr
      generalize toD ((l.length : Int) - 1) d1 = d2 at *
      refine spec_body Tryz.func86 rfl (fun E hE => ?_); simp only [go_sem, Tryz.ntmps86]
      repeat' (first | (with_reducible (show runOps _ _ _ _ _ _); first | (refine Qo fun K' hK => ?_; simp only [go_sem, *]) | refine run_nil ?_ | (refine Qy rfl rfl rfl fun K' hK => ?_; simp only [go_sem, *]) | (refine Qx rfl rfl rfl ?_; simp only [go_sem, *]) | (refine Qu rfl rfl rfl ?_; simp only [go_sem, *]) | (refine Qi rfl rfl rfl (fun hb K' hK => ?_) (fun hb => ?_) <;> (have hc := hb; try simp only [go_sem] at hc; simp only [go_sem, *]))) | (with_reducible (show Hold _ _ _ _ _); first | refine s_seq rfl ?_ | refine s_block rfl ?_ | refine s_region rfl ?_ | refine s_draw rfl Tryz.mixed (by kernel_rfl) ?_ | refine s_skip rfl ?_ | refine s_exit rfl ?_ | refine s_label rfl ?_ | (refine s_cond rfl ⟨_, rfl, fun hb => ?_, fun hb => ?_⟩ <;> (have hc := hb; try simp only [go_sem] at hc)) | refine s_ret rfl ?_) | (with_reducible (show callA _ _ _ _ _ _); first | (refine call_of [0] [] (so) (by simp) ?_ ?_ (by simp) (.inl rfl) ?_ ?_ ?_; (focus (simp only [go_sem, *]; done)); (focus (simp only [go_sem, *]; done)); (focus (first | (simp; done) | (simp [go_sem]; done))); (focus (first | (simp; done) | (simp [go_sem]; done))); simp only [go_sem, *]) | (refine call_of [0] [] (s1) (by simp) ?_ ?_ (by simp) (.inl rfl) ?_ ?_ ?_; (focus (simp only [go_sem, *]; done)); (focus (simp only [go_sem, *]; done)); (focus (first | (simp; done) | (simp [go_sem]; done))); (focus (first | (simp; done) | (simp [go_sem]; done))); simp only [go_sem, *])) | (with_reducible (show indepB _ _ = true ∧ _); refine And.intro (by kernel_rfl) ?_) | (with_reducible (show _ ∧ _); refine And.intro (by omega) ?_) | (refine contA_of hK ?_; clear hK K'; simp only [go_sem, *]) | (simp only [thenA, inBlockA, go_sem, *]))
      all_goals first | contradiction | skip
      refine ⟨[(l.getD k default).enc], [some 0], [], ⟨by simp only [resOne, go_sem], trivial⟩, ?_⟩
      simp only [go_sem, *]
end Go.Abs

namespace Go.Abs
open Go Go.Proofs
set_option maxRecDepth 10000
set_option maxHeartbeats 4000000
theorem sp_ChangeOf (d : Dice) (p : Plan) (h : d.list.length ≤ 4294967296) (v : Valid p) :
    Spec Tryz.prog 23 [.ptr 0 0, encPlan p] [diceBox d] (Change.enc (changeOf d p).1) [diceBox (changeOf d p).2] := by
  have hp0 := v.ne
  have hp3 := v.len
  have s1 := sp_From d 1 7 h (by omega) (by omega)
  have s2 := sp_To (fromD 1 7 d) ((p.length : Int) - 1) (by unfold fromD; rw [toD_list]; exact h) (by omega)
  have hr1 := fromN_le (lo := 1) (hi := 7) (by omega) d
  have hr2 := toN_le (n := (p.length : Int) - 1) (by omega) (fromD 1 7 d)
  have hl2 : (toD ((p.length : Int) - 1) (fromD 1 7 d)).list.length ≤ 4294967296 := by unfold fromD; rw [toD_list, toD_list]; exact h
  have hw0 : IntKind.i64.wrap ((p.length : Int) - 1) = (p.length : Int) - 1 := wrap_i64 (by omega) (by omega)
  unfold changeOf
  obtain ⟨s, hs⟩ : ∃ s : Nat, toN ((p.length : Int) - 1) (fromD 1 7 d) = s := ⟨(toN ((p.length : Int) - 1) (fromD 1 7 d)).toNat, by omega⟩
  rw [hs] at hr2 s2 ⊢
  clear hs
  generalize toD ((p.length : Int) - 1) (fromD 1 7 d) = d2 at *
  generalize fromD 1 7 d = d1 at *
  generalize fromN 1 7 d = k at *
  have hsl : s < p.length := by omega
  have hrow : (rowAt p (s : Int)).length ≤ 8 := (v.row _).len
  have hgd : List.getD p s default = rowAt p (s : Int) := rfl
  unfold changeAt
  by_cases k4 : k = 4
  · rw [if_pos k4]
    subst k4
    have s3 := sp_From d2 1 2 hl2 (by omega) (by omega)
    have hr3 := fromN_le (lo := 1) (hi := 2) (by omega) d2
    generalize fromN 1 2 d2 = x at *
    generalize fromD 1 2 d2 = d3 at *
    have s4 := sp_Mod ((s : Int) + x) (p.length : Int) (by omega) (by omega)
    have hw1 : IntKind.i64.wrap ((s : Int) + x) = (s : Int) + x := wrap_i64 (by omega) (by omega)
    generalize ((s : Int) + x) % (p.length : Int) = o at *
    refine spec_body Tryz.func23 rfl (fun E hE => ?_); simp only [go_sem, Tryz.ntmps23]
    repeat' (first | (with_reducible (show runOps _ _ _ _ _ _); first | (refine Qo fun K' hK => ?_; simp only [go_sem, *]) | refine run_nil ?_ | (refine Qy rfl rfl rfl fun K' hK => ?_; simp only [go_sem, *]) | (refine Qx rfl rfl rfl ?_; simp only [go_sem, *]) | (refine Qu rfl rfl rfl ?_; simp only [go_sem, *]) | (refine Qi rfl rfl rfl (fun hb K' hK => ?_) (fun hb => ?_) <;> (have hc := hb; try simp only [go_sem] at hc; simp only [go_sem, *]))) | (with_reducible (show Hold _ _ _ _ _); first | refine s_seq rfl ?_ | refine s_block rfl ?_ | refine s_region rfl ?_ | refine s_draw rfl Tryz.mixed (by kernel_rfl) ?_ | refine s_skip rfl ?_ | refine s_exit rfl ?_ | refine s_label rfl ?_ | (refine s_cond rfl ⟨_, rfl, fun hb => ?_, fun hb => ?_⟩ <;> (have hc := hb; try simp only [go_sem] at hc)) | refine s_ret rfl ?_) | (with_reducible (show callA _ _ _ _ _ _); first | (refine call_of [0] [] (s1) (by simp) ?_ ?_ (by simp) (.inl rfl) ?_ ?_ ?_; (focus (simp only [go_sem, *]; done)); (focus (simp only [go_sem, *]; done)); (focus (first | (simp; done) | (simp [go_sem]; done))); (focus (first | (simp; done) | (simp [go_sem]; done))); simp only [go_sem, *]) | (refine call_of [0] [] (s2) (by simp) ?_ ?_ (by simp) (.inl rfl) ?_ ?_ ?_; (focus (simp only [go_sem, *]; done)); (focus (simp only [go_sem, *]; done)); (focus (first | (simp; done) | (simp [go_sem]; done))); (focus (first | (simp; done) | (simp [go_sem]; done))); simp only [go_sem, *]) | (refine call_of [0] [] (s3) (by simp) ?_ ?_ (by simp) (.inl rfl) ?_ ?_ ?_; (focus (simp only [go_sem, *]; done)); (focus (simp only [go_sem, *]; done)); (focus (first | (simp; done) | (simp [go_sem]; done))); (focus (first | (simp; done) | (simp [go_sem]; done))); simp only [go_sem, *]) | (refine call_s (s4) ?_ ?_; (focus (simp only [go_sem, *]; done)); simp only [go_sem, *])) | (with_reducible (show indepB _ _ = true ∧ _); refine And.intro (by kernel_rfl) ?_) | (with_reducible (show _ ∧ _); refine And.intro (by omega) ?_) | (refine contA_of hK ?_; clear hK K'; simp only [go_sem, *]) | (simp only [thenA, inBlockA, go_sem, *]))
    all_goals first | contradiction | skip
    refine ⟨[.agg [iV 4, iV s, iV o, iV 0, iV 0, iV 0, iV 0]], [some 0], [], ⟨by simp only [resOne, go_sem], trivial⟩, ?_⟩
    simp only [go_sem, zeroPlate, *]
  rw [if_neg k4]
  have k4' : (k == 4) = false := by rw [beq_eq_false_iff_ne]; exact k4
  by_cases k7 : k = 7
  · rw [if_pos k7]
    subst k7
    have s3 := sp_From d2 1 2 hl2 (by omega) (by omega)
    have hr3 := fromN_le (lo := 1) (hi := 2) (by omega) d2
    have hl3 : (fromD 1 2 d2).list.length ≤ 4294967296 := by unfold fromD; rw [toD_list]; exact hl2
    generalize fromN 1 2 d2 = x at *
    generalize fromD 1 2 d2 = d3 at *
    have s4 := sp_Mod ((s : Int) + x) (p.length : Int) (by omega) (by omega)
    have hw1 : IntKind.i64.wrap ((s : Int) + x) = (s : Int) + x := wrap_i64 (by omega) (by omega)
    generalize ((s : Int) + x) % (p.length : Int) = o at *
    simp only
    have sa := sp_plateOf d3 (rowAt p (s : Int)) hl3 (by omega)
    have hla : (somePlate d3 (rowAt p (s : Int))).2.list.length ≤ 4294967296 := by rw [somePlate_list]; exact hl3
    generalize somePlate d3 (rowAt p (s : Int)) = A at *
    obtain ⟨a, d4⟩ := A
    simp only at sa hla ⊢
    have sb := sp_plateOf d4 (rowAt p (s : Int)) hla (by omega)
    generalize somePlate d4 (rowAt p (s : Int)) = B at *
    obtain ⟨b, d5⟩ := B
    simp only at sb ⊢
    have sc := sp_before b a
    by_cases hlt : b.lt a = true
    · rw [if_pos hlt]
      rw [hlt] at sc
      clear hlt
      refine spec_body Tryz.func23 rfl (fun E hE => ?_); simp only [go_sem, Tryz.ntmps23]
      repeat' (first | (with_reducible (show runOps _ _ _ _ _ _); first | (refine Qo fun K' hK => ?_; simp only [go_sem, *]) | refine run_nil ?_ | (refine Qy rfl rfl rfl fun K' hK => ?_; simp only [go_sem, *]) | (refine Qx rfl rfl rfl ?_; simp only [go_sem, *]) | (refine Qu rfl rfl rfl ?_; simp only [go_sem, *]) | (refine Qi rfl rfl rfl (fun hb K' hK => ?_) (fun hb => ?_) <;> (have hc := hb; try simp only [go_sem] at hc; simp only [go_sem, *]))) | (with_reducible (show Hold _ _ _ _ _); first | refine s_seq rfl ?_ | refine s_block rfl ?_ | refine s_region rfl ?_ | refine s_draw rfl Tryz.mixed (by kernel_rfl) ?_ | refine s_skip rfl ?_ | refine s_exit rfl ?_ | refine s_label rfl ?_ | (refine s_cond rfl ⟨_, rfl, fun hb => ?_, fun hb => ?_⟩ <;> (have hc := hb; try simp only [go_sem] at hc)) | refine s_ret rfl ?_) | (with_reducible (show callA _ _ _ _ _ _); first | (refine call_of [0] [] (s1) (by simp) ?_ ?_ (by simp) (.inl rfl) ?_ ?_ ?_; (focus (simp only [go_sem, *]; done)); (focus (simp only [go_sem, *]; done)); (focus (first | (simp; done) | (simp [go_sem]; done))); (focus (first | (simp; done) | (simp [go_sem]; done))); simp only [go_sem, *]) | (refine call_of [0] [] (s2) (by simp) ?_ ?_ (by simp) (.inl rfl) ?_ ?_ ?_; (focus (simp only [go_sem, *]; done)); (focus (simp only [go_sem, *]; done)); (focus (first | (simp; done) | (simp [go_sem]; done))); (focus (first | (simp; done) | (simp [go_sem]; done))); simp only [go_sem, *]) | (refine call_of [0] [] (s3) (by simp) ?_ ?_ (by simp) (.inl rfl) ?_ ?_ ?_; (focus (simp only [go_sem, *]; done)); (focus (simp only [go_sem, *]; done)); (focus (first | (simp; done) | (simp [go_sem]; done))); (focus (first | (simp; done) | (simp [go_sem]; done))); simp only [go_sem, *]) | (refine call_s (s4) ?_ ?_; (focus (simp only [go_sem, *]; done)); simp only [go_sem, *]) | (refine call_of [0] [] (sa) (by simp) ?_ ?_ (by simp) (.inl rfl) ?_ ?_ ?_; (focus (simp only [go_sem, *]; done)); (focus (simp only [go_sem, *]; done)); (focus (first | (simp; done) | (simp [go_sem]; done))); (focus (first | (simp; done) | (simp [go_sem]; done))); simp only [go_sem, *]) | (refine call_of [0] [] (sb) (by simp) ?_ ?_ (by simp) (.inl rfl) ?_ ?_ ?_; (focus (simp only [go_sem, *]; done)); (focus (simp only [go_sem, *]; done)); (focus (first | (simp; done) | (simp [go_sem]; done))); (focus (first | (simp; done) | (simp [go_sem]; done))); simp only [go_sem, *]) | (refine call_s (sc) ?_ ?_; (focus (simp only [go_sem, *]; done)); simp only [go_sem, *])) | (with_reducible (show indepB _ _ = true ∧ _); refine And.intro (by kernel_rfl) ?_) | (with_reducible (show _ ∧ _); refine And.intro (by omega) ?_) | (refine contA_of hK ?_; clear hK K'; simp only [go_sem, *]) | (simp only [thenA, inBlockA, go_sem, *]))
      all_goals first | contradiction | skip
      refine ⟨[.agg [iV 7, iV s, iV o, iV b.number, iV b.letter, iV a.number, iV a.letter]], [some 0], [], ⟨by simp only [resOne, go_sem], trivial⟩, ?_⟩
      simp only [go_sem, zeroPlate, *]
    · rw [if_neg hlt]
      rw [Bool.not_eq_true] at hlt
      rw [hlt] at sc
      clear hlt
      refine spec_body Tryz.func23 rfl (fun E hE => ?_); simp only [go_sem, Tryz.ntmps23]
      repeat' (first | (with_reducible (show runOps _ _ _ _ _ _); first | (refine Qo fun K' hK => ?_; simp only [go_sem, *]) | refine run_nil ?_ | (refine Qy rfl rfl rfl fun K' hK => ?_; simp only [go_sem, *]) | (refine Qx rfl rfl rfl ?_; simp only [go_sem, *]) | (refine Qu rfl rfl rfl ?_; simp only [go_sem, *]) | (refine Qi rfl rfl rfl (fun hb K' hK => ?_) (fun hb => ?_) <;> (have hc := hb; try simp only [go_sem] at hc; simp only [go_sem, *]))) | (with_reducible (show Hold _ _ _ _ _); first | refine s_seq rfl ?_ | refine s_block rfl ?_ | refine s_region rfl ?_ | refine s_draw rfl Tryz.mixed (by kernel_rfl) ?_ | refine s_skip rfl ?_ | refine s_exit rfl ?_ | refine s_label rfl ?_ | (refine s_cond rfl ⟨_, rfl, fun hb => ?_, fun hb => ?_⟩ <;> (have hc := hb; try simp only [go_sem] at hc)) | refine s_ret rfl ?_) | (with_reducible (show callA _ _ _ _ _ _); first | (refine call_of [0] [] (s1) (by simp) ?_ ?_ (by simp) (.inl rfl) ?_ ?_ ?_; (focus (simp only [go_sem, *]; done)); (focus (simp only [go_sem, *]; done)); (focus (first | (simp; done) | (simp [go_sem]; done))); (focus (first | (simp; done) | (simp [go_sem]; done))); simp only [go_sem, *]) | (refine call_of [0] [] (s2) (by simp) ?_ ?_ (by simp) (.inl rfl) ?_ ?_ ?_; (focus (simp only [go_sem, *]; done)); (focus (simp only [go_sem, *]; done)); (focus (first | (simp; done) | (simp [go_sem]; done))); (focus (first | (simp; done) | (simp [go_sem]; done))); simp only [go_sem, *]) | (refine call_of [0] [] (s3) (by simp) ?_ ?_ (by simp) (.inl rfl) ?_ ?_ ?_; (focus (simp only [go_sem, *]; done)); (focus (simp only [go_sem, *]; done)); (focus (first | (simp; done) | (simp [go_sem]; done))); (focus (first | (simp; done) | (simp [go_sem]; done))); simp only [go_sem, *]) | (refine call_s (s4) ?_ ?_; (focus (simp only [go_sem, *]; done)); simp only [go_sem, *]) | (refine call_of [0] [] (sa) (by simp) ?_ ?_ (by simp) (.inl rfl) ?_ ?_ ?_; (focus (simp only [go_sem, *]; done)); (focus (simp only [go_sem, *]; done)); (focus (first | (simp; done) | (simp [go_sem]; done))); (focus (first | (simp; done) | (simp [go_sem]; done))); simp only [go_sem, *]) | (refine call_of [0] [] (sb) (by simp) ?_ ?_ (by simp) (.inl rfl) ?_ ?_ ?_; (focus (simp only [go_sem, *]; done)); (focus (simp only [go_sem, *]; done)); (focus (first | (simp; done) | (simp [go_sem]; done))); (focus (first | (simp; done) | (simp [go_sem]; done))); simp only [go_sem, *]) | (refine call_s (sc) ?_ ?_; (focus (simp only [go_sem, *]; done)); simp only [go_sem, *])) | (with_reducible (show indepB _ _ = true ∧ _); refine And.intro (by kernel_rfl) ?_) | (with_reducible (show _ ∧ _); refine And.intro (by omega) ?_) | (refine contA_of hK ?_; clear hK K'; simp only [go_sem, *]) | (simp only [thenA, inBlockA, go_sem, *]))
      all_goals first | contradiction | skip
      refine ⟨[.agg [iV 7, iV s, iV o, iV a.number, iV a.letter, iV b.number, iV b.letter]], [some 0], [], ⟨by simp only [resOne, go_sem], trivial⟩, ?_⟩
      simp only [go_sem, zeroPlate, *]
  rw [if_neg k7]
  have k7' : (k == 7) = false := by rw [beq_eq_false_iff_ne]; exact k7
  by_cases k56 : k = 5 ∨ k = 6
  · rw [if_pos k56]
    simp only
    have sa := sp_plateOf d2 (rowAt p (s : Int)) hl2 (by omega)
    generalize somePlate d2 (rowAt p (s : Int)) = A at *
    obtain ⟨a, d4⟩ := A
    simp only at sa ⊢
    rcases k56 with k5 | k6
    · subst k5
      clear k4 k7
      refine spec_body Tryz.func23 rfl (fun E hE => ?_); simp only [go_sem, Tryz.ntmps23]
      repeat' (first | (with_reducible (show runOps _ _ _ _ _ _); first | (refine Qo fun K' hK => ?_; simp only [go_sem, *]) | refine run_nil ?_ | (refine Qy rfl rfl rfl fun K' hK => ?_; simp only [go_sem, *]) | (refine Qx rfl rfl rfl ?_; simp only [go_sem, *]) | (refine Qu rfl rfl rfl ?_; simp only [go_sem, *]) | (refine Qi rfl rfl rfl (fun hb K' hK => ?_) (fun hb => ?_) <;> (have hc := hb; try simp only [go_sem] at hc; simp only [go_sem, *]))) | (with_reducible (show Hold _ _ _ _ _); first | refine s_seq rfl ?_ | refine s_block rfl ?_ | refine s_region rfl ?_ | refine s_draw rfl Tryz.mixed (by kernel_rfl) ?_ | refine s_skip rfl ?_ | refine s_exit rfl ?_ | refine s_label rfl ?_ | (refine s_cond rfl ⟨_, rfl, fun hb => ?_, fun hb => ?_⟩ <;> (have hc := hb; try simp only [go_sem] at hc)) | refine s_ret rfl ?_) | (with_reducible (show callA _ _ _ _ _ _); first | (refine call_of [0] [] (s1) (by simp) ?_ ?_ (by simp) (.inl rfl) ?_ ?_ ?_; (focus (simp only [go_sem, *]; done)); (focus (simp only [go_sem, *]; done)); (focus (first | (simp; done) | (simp [go_sem]; done))); (focus (first | (simp; done) | (simp [go_sem]; done))); simp only [go_sem, *]) | (refine call_of [0] [] (s2) (by simp) ?_ ?_ (by simp) (.inl rfl) ?_ ?_ ?_; (focus (simp only [go_sem, *]; done)); (focus (simp only [go_sem, *]; done)); (focus (first | (simp; done) | (simp [go_sem]; done))); (focus (first | (simp; done) | (simp [go_sem]; done))); simp only [go_sem, *]) | (refine call_of [0] [] (sa) (by simp) ?_ ?_ (by simp) (.inl rfl) ?_ ?_ ?_; (focus (simp only [go_sem, *]; done)); (focus (simp only [go_sem, *]; done)); (focus (first | (simp; done) | (simp [go_sem]; done))); (focus (first | (simp; done) | (simp [go_sem]; done))); simp only [go_sem, *])) | (with_reducible (show indepB _ _ = true ∧ _); refine And.intro (by kernel_rfl) ?_) | (with_reducible (show _ ∧ _); refine And.intro (by omega) ?_) | (refine contA_of hK ?_; clear hK K'; simp only [go_sem, *]) | (simp only [thenA, inBlockA, go_sem, *]))
      all_goals first | contradiction | skip
      refine ⟨[.agg [iV 5, iV s, iV 0, iV a.number, iV a.letter, iV 0, iV 0]], [some 0], [], ⟨by simp only [resOne, go_sem], trivial⟩, ?_⟩
      simp only [go_sem, zeroPlate, *]
    · subst k6
      clear k4 k7
      refine spec_body Tryz.func23 rfl (fun E hE => ?_); simp only [go_sem, Tryz.ntmps23]
      repeat' (first | (with_reducible (show runOps _ _ _ _ _ _); first | (refine Qo fun K' hK => ?_; simp only [go_sem, *]) | refine run_nil ?_ | (refine Qy rfl rfl rfl fun K' hK => ?_; simp only [go_sem, *]) | (refine Qx rfl rfl rfl ?_; simp only [go_sem, *]) | (refine Qu rfl rfl rfl ?_; simp only [go_sem, *]) | (refine Qi rfl rfl rfl (fun hb K' hK => ?_) (fun hb => ?_) <;> (have hc := hb; try simp only [go_sem] at hc; simp only [go_sem, *]))) | (with_reducible (show Hold _ _ _ _ _); first | refine s_seq rfl ?_ | refine s_block rfl ?_ | refine s_region rfl ?_ | refine s_draw rfl Tryz.mixed (by kernel_rfl) ?_ | refine s_skip rfl ?_ | refine s_exit rfl ?_ | refine s_label rfl ?_ | (refine s_cond rfl ⟨_, rfl, fun hb => ?_, fun hb => ?_⟩ <;> (have hc := hb; try simp only [go_sem] at hc)) | refine s_ret rfl ?_) | (with_reducible (show callA _ _ _ _ _ _); first | (refine call_of [0] [] (s1) (by simp) ?_ ?_ (by simp) (.inl rfl) ?_ ?_ ?_; (focus (simp only [go_sem, *]; done)); (focus (simp only [go_sem, *]; done)); (focus (first | (simp; done) | (simp [go_sem]; done))); (focus (first | (simp; done) | (simp [go_sem]; done))); simp only [go_sem, *]) | (refine call_of [0] [] (s2) (by simp) ?_ ?_ (by simp) (.inl rfl) ?_ ?_ ?_; (focus (simp only [go_sem, *]; done)); (focus (simp only [go_sem, *]; done)); (focus (first | (simp; done) | (simp [go_sem]; done))); (focus (first | (simp; done) | (simp [go_sem]; done))); simp only [go_sem, *]) | (refine call_of [0] [] (sa) (by simp) ?_ ?_ (by simp) (.inl rfl) ?_ ?_ ?_; (focus (simp only [go_sem, *]; done)); (focus (simp only [go_sem, *]; done)); (focus (first | (simp; done) | (simp [go_sem]; done))); (focus (first | (simp; done) | (simp [go_sem]; done))); simp only [go_sem, *])) | (with_reducible (show indepB _ _ = true ∧ _); refine And.intro (by kernel_rfl) ?_) | (with_reducible (show _ ∧ _); refine And.intro (by omega) ?_) | (refine contA_of hK ?_; clear hK K'; simp only [go_sem, *]) | (simp only [thenA, inBlockA, go_sem, *]))
      all_goals first | contradiction | skip
      refine ⟨[.agg [iV 6, iV s, iV 0, iV a.number, iV a.letter, iV 0, iV 0]], [some 0], [], ⟨by simp only [resOne, go_sem], trivial⟩, ?_⟩
      simp only [go_sem, zeroPlate, *]
  · rw [if_neg k56]
    have k5' : (k == 5) = false := by rw [beq_eq_false_iff_ne]; omega
    have k6' : (k == 6) = false := by rw [beq_eq_false_iff_ne]; omega
    clear k4 k7 k56
    refine spec_body Tryz.func23 rfl (fun E hE => ?_); simp only [go_sem, Tryz.ntmps23]
    repeat' (first | (with_reducible (show runOps _ _ _ _ _ _); first | (refine Qo fun K' hK => ?_; simp only [go_sem, *]) | refine run_nil ?_ | (refine Qy rfl rfl rfl fun K' hK => ?_; simp only [go_sem, *]) | (refine Qx rfl rfl rfl ?_; simp only [go_sem, *]) | (refine Qu rfl rfl rfl ?_; simp only [go_sem, *]) | (refine Qi rfl rfl rfl (fun hb K' hK => ?_) (fun hb => ?_) <;> (have hc := hb; try simp only [go_sem] at hc; simp only [go_sem, *]))) | (with_reducible (show Hold _ _ _ _ _); first | refine s_seq rfl ?_ | refine s_block rfl ?_ | refine s_region rfl ?_ | refine s_draw rfl Tryz.mixed (by kernel_rfl) ?_ | refine s_skip rfl ?_ | refine s_exit rfl ?_ | refine s_label rfl ?_ | (refine s_cond rfl ⟨_, rfl, fun hb => ?_, fun hb => ?_⟩ <;> (have hc := hb; try simp only [go_sem] at hc)) | refine s_ret rfl ?_) | (with_reducible (show callA _ _ _ _ _ _); first | (refine call_of [0] [] (s1) (by simp) ?_ ?_ (by simp) (.inl rfl) ?_ ?_ ?_; (focus (simp only [go_sem, *]; done)); (focus (simp only [go_sem, *]; done)); (focus (first | (simp; done) | (simp [go_sem]; done))); (focus (first | (simp; done) | (simp [go_sem]; done))); simp only [go_sem, *]) | (refine call_of [0] [] (s2) (by simp) ?_ ?_ (by simp) (.inl rfl) ?_ ?_ ?_; (focus (simp only [go_sem, *]; done)); (focus (simp only [go_sem, *]; done)); (focus (first | (simp; done) | (simp [go_sem]; done))); (focus (first | (simp; done) | (simp [go_sem]; done))); simp only [go_sem, *])) | (with_reducible (show indepB _ _ = true ∧ _); refine And.intro (by kernel_rfl) ?_) | (with_reducible (show _ ∧ _); refine And.intro (by omega) ?_) | (refine contA_of hK ?_; clear hK K'; simp only [go_sem, *]) | (simp only [thenA, inBlockA, go_sem, *]))
    all_goals first | contradiction | skip
    refine ⟨[.agg [iV k, iV s, iV 0, iV 0, iV 0, iV 0, iV 0]], [some 0], [], ⟨by simp only [resOne, go_sem], trivial⟩, ?_⟩
    simp only [go_sem, zeroPlate, *]
end Go.Abs

namespace Go.Abs
open Go Go.Proofs
set_option maxRecDepth 10000
set_option maxHeartbeats 4000000
theorem can_of_err {p : Plan} {c : Change} (v : Valid p) : errOf p c = can p c := by unfold errOf; rw [if_pos ((check_zero p).2 v)]
theorem sp_StreetHouses (nums : List Int) (h : nums.length ≤ 4294967296) : Spec Tryz.prog 5 [encInts nums] [] (bV true) [] := by
  have s1 := sp_NewDice nums
  have s2 := sp_PlanOf (newDice nums) 8 h (by omega)
  have v := planOf_ok (d := newDice nums) (houses := 8) (by omega)
  have hl := planOf_list (newDice nums) 8
  generalize planOf (newDice nums) 8 = P at *
  obtain ⟨p, d1⟩ := P
  simp only at s2 v hl
  have s3 := sp_ChangeOf d1 p (by rw [hl]; exact h) v
  generalize changeOf d1 p = C at *
  obtain ⟨c, d2⟩ := C
  simp only at s3
  have hp3 := v.len
  have s4 := sp_After p c (by omega)
  have sw := sp_walking
  by_cases e : errOf p c = 0
  · rw [if_pos e, e] at s4
    rw [can_of_err v] at e
    have f := Fit.of_can e
    have vq := valid_after v f
    have hc := houses_count v f
    have hlen : (afterOf p c).length = p.length := laid_length _ _
    generalize afterOf p c = q at *
    have hq3 := vq.len
    have s5 := sp_wide q (by omega) false (wide_valid vq)
    have s6 := sp_Check q (by omega)
    rw [(check_zero q).2 vq] at s6
    have s7 := sp_HousesOf q (by omega) (fun l hl => by have := (vq.rows l hl).len; omega) (by have := vq.count; omega)
    have s8 := sp_HousesOf p (by omega) (fun l hl => by have := (v.rows l hl).len; omega) (by have := v.count; omega)
    have hcp := v.count
    by_cases k5 : c.kind = 5
    · have hw : IntKind.i64.wrap (((housesOf p).length : Int) + 1) = ((housesOf q).length : Int) := by
        rw [hc, if_pos k5]; exact wrap_i64 (by omega) (by omega)
      have k5' : (c.kind == 5) = true := by rw [beq_iff_eq]; exact k5
      clear hc k5
      refine spec_body Tryz.func5 rfl (fun E hE => ?_); simp only [go_sem, Tryz.ntmps5]
      repeat' (first | (with_reducible (show runOps _ _ _ _ _ _); first | (refine Qo fun K' hK => ?_; simp only [go_sem, *]) | refine run_nil ?_ | (refine Qy rfl rfl rfl fun K' hK => ?_; simp only [go_sem, *]) | (refine Qx rfl rfl rfl ?_; simp only [go_sem, *]) | (refine Qu rfl rfl rfl ?_; simp only [go_sem, *]) | (refine Qi rfl rfl rfl (fun hb K' hK => ?_) (fun hb => ?_) <;> (have hc := hb; try simp only [go_sem] at hc; simp only [go_sem, *]))) | (with_reducible (show Hold _ _ _ _ _); first | refine s_seq rfl ?_ | refine s_block rfl ?_ | refine s_region rfl ?_ | refine s_draw rfl Tryz.mixed (by kernel_rfl) ?_ | refine s_skip rfl ?_ | refine s_exit rfl ?_ | refine s_label rfl ?_ | (refine s_cond rfl ⟨_, rfl, fun hb => ?_, fun hb => ?_⟩ <;> (have hc := hb; try simp only [go_sem] at hc)) | refine s_ret rfl ?_) | (with_reducible (show callA _ _ _ _ _ _); first | (refine call_n (s1) ?_ ?_ ?_ ?_; (focus (simp only [go_sem, *]; done)); (focus (first | (simp; done) | (simp [go_sem]; done))); (focus (first | (simp; done) | (simp [go_sem]; done))); simp only [go_sem, *]) | (refine call_of [0] [] (s2) (by simp) ?_ ?_ (by simp) (.inl rfl) ?_ ?_ ?_; (focus (simp only [go_sem, *]; done)); (focus (simp only [go_sem, *]; done)); (focus (first | (simp; done) | (simp [go_sem]; done))); (focus (first | (simp; done) | (simp [go_sem]; done))); simp only [go_sem, *]) | (refine call_of [0] [] (s3) (by simp) ?_ ?_ (by simp) (.inl rfl) ?_ ?_ ?_; (focus (simp only [go_sem, *]; done)); (focus (simp only [go_sem, *]; done)); (focus (first | (simp; done) | (simp [go_sem]; done))); (focus (first | (simp; done) | (simp [go_sem]; done))); simp only [go_sem, *]) | (refine call_s (s4) ?_ ?_; (focus (simp only [go_sem, *]; done)); simp only [go_sem, *]) | (refine call_s (s5) ?_ ?_; (focus (simp only [go_sem, *]; done)); simp only [go_sem, *]) | (refine call_s (s6) ?_ ?_; (focus (simp only [go_sem, *]; done)); simp only [go_sem, *]) | (refine call_n (s7) ?_ ?_ ?_ ?_; (focus (simp only [go_sem, *]; done)); (focus (first | (simp; done) | (simp [go_sem]; done))); (focus (first | (simp; done) | (simp [go_sem]; done))); simp only [go_sem, *]) | (refine call_n (s8) ?_ ?_ ?_ ?_; (focus (simp only [go_sem, *]; done)); (focus (first | (simp; done) | (simp [go_sem]; done))); (focus (first | (simp; done) | (simp [go_sem]; done))); simp only [go_sem, *]) | (refine call_s (sw) ?_ ?_; (focus (simp only [go_sem, *]; done)); simp only [go_sem, *])) | (with_reducible (show indepB _ _ = true ∧ _); refine And.intro (by kernel_rfl) ?_) | (with_reducible (show _ ∧ _); refine And.intro (by omega) ?_) | (refine contA_of hK ?_; clear hK K'; simp only [go_sem, *]) | (simp only [thenA, inBlockA, go_sem, *]))
      all_goals first | contradiction | skip
      (refine ⟨[_], [], [], ⟨rfl, trivial⟩, ?_⟩; simp only [go_sem, *])
    · have k5' : (c.kind == 5) = false := by rw [beq_eq_false_iff_ne]; exact k5
      by_cases k6 : c.kind = 6
      · have hw : IntKind.i64.wrap (((housesOf p).length : Int) + -1) = ((housesOf q).length : Int) := by
          rw [hc, if_neg k5, if_pos k6]; exact wrap_i64 (by omega) (by omega)
        have k6' : (c.kind == 6) = true := by rw [beq_iff_eq]; exact k6
        clear hc k5 k6
        refine spec_body Tryz.func5 rfl (fun E hE => ?_); simp only [go_sem, Tryz.ntmps5]
        repeat' (first | (with_reducible (show runOps _ _ _ _ _ _); first | (refine Qo fun K' hK => ?_; simp only [go_sem, *]) | refine run_nil ?_ | (refine Qy rfl rfl rfl fun K' hK => ?_; simp only [go_sem, *]) | (refine Qx rfl rfl rfl ?_; simp only [go_sem, *]) | (refine Qu rfl rfl rfl ?_; simp only [go_sem, *]) | (refine Qi rfl rfl rfl (fun hb K' hK => ?_) (fun hb => ?_) <;> (have hc := hb; try simp only [go_sem] at hc; simp only [go_sem, *]))) | (with_reducible (show Hold _ _ _ _ _); first | refine s_seq rfl ?_ | refine s_block rfl ?_ | refine s_region rfl ?_ | refine s_draw rfl Tryz.mixed (by kernel_rfl) ?_ | refine s_skip rfl ?_ | refine s_exit rfl ?_ | refine s_label rfl ?_ | (refine s_cond rfl ⟨_, rfl, fun hb => ?_, fun hb => ?_⟩ <;> (have hc := hb; try simp only [go_sem] at hc)) | refine s_ret rfl ?_) | (with_reducible (show callA _ _ _ _ _ _); first | (refine call_n (s1) ?_ ?_ ?_ ?_; (focus (simp only [go_sem, *]; done)); (focus (first | (simp; done) | (simp [go_sem]; done))); (focus (first | (simp; done) | (simp [go_sem]; done))); simp only [go_sem, *]) | (refine call_of [0] [] (s2) (by simp) ?_ ?_ (by simp) (.inl rfl) ?_ ?_ ?_; (focus (simp only [go_sem, *]; done)); (focus (simp only [go_sem, *]; done)); (focus (first | (simp; done) | (simp [go_sem]; done))); (focus (first | (simp; done) | (simp [go_sem]; done))); simp only [go_sem, *]) | (refine call_of [0] [] (s3) (by simp) ?_ ?_ (by simp) (.inl rfl) ?_ ?_ ?_; (focus (simp only [go_sem, *]; done)); (focus (simp only [go_sem, *]; done)); (focus (first | (simp; done) | (simp [go_sem]; done))); (focus (first | (simp; done) | (simp [go_sem]; done))); simp only [go_sem, *]) | (refine call_s (s4) ?_ ?_; (focus (simp only [go_sem, *]; done)); simp only [go_sem, *]) | (refine call_s (s5) ?_ ?_; (focus (simp only [go_sem, *]; done)); simp only [go_sem, *]) | (refine call_s (s6) ?_ ?_; (focus (simp only [go_sem, *]; done)); simp only [go_sem, *]) | (refine call_n (s7) ?_ ?_ ?_ ?_; (focus (simp only [go_sem, *]; done)); (focus (first | (simp; done) | (simp [go_sem]; done))); (focus (first | (simp; done) | (simp [go_sem]; done))); simp only [go_sem, *]) | (refine call_n (s8) ?_ ?_ ?_ ?_; (focus (simp only [go_sem, *]; done)); (focus (first | (simp; done) | (simp [go_sem]; done))); (focus (first | (simp; done) | (simp [go_sem]; done))); simp only [go_sem, *]) | (refine call_s (sw) ?_ ?_; (focus (simp only [go_sem, *]; done)); simp only [go_sem, *])) | (with_reducible (show indepB _ _ = true ∧ _); refine And.intro (by kernel_rfl) ?_) | (with_reducible (show _ ∧ _); refine And.intro (by omega) ?_) | (refine contA_of hK ?_; clear hK K'; simp only [go_sem, *]) | (simp only [thenA, inBlockA, go_sem, *]))
        all_goals first | contradiction | skip
        (refine ⟨[_], [], [], ⟨rfl, trivial⟩, ?_⟩; simp only [go_sem, *])
      · have k6' : (c.kind == 6) = false := by rw [beq_eq_false_iff_ne]; exact k6
        have hw : IntKind.i64.wrap (((housesOf p).length : Int) + 0) = ((housesOf q).length : Int) := by
          rw [hc, if_neg k5, if_neg k6]; exact wrap_i64 (by omega) (by omega)
        clear hc k5 k6
        refine spec_body Tryz.func5 rfl (fun E hE => ?_); simp only [go_sem, Tryz.ntmps5]
        repeat' (first | (with_reducible (show runOps _ _ _ _ _ _); first | (refine Qo fun K' hK => ?_; simp only [go_sem, *]) | refine run_nil ?_ | (refine Qy rfl rfl rfl fun K' hK => ?_; simp only [go_sem, *]) | (refine Qx rfl rfl rfl ?_; simp only [go_sem, *]) | (refine Qu rfl rfl rfl ?_; simp only [go_sem, *]) | (refine Qi rfl rfl rfl (fun hb K' hK => ?_) (fun hb => ?_) <;> (have hc := hb; try simp only [go_sem] at hc; simp only [go_sem, *]))) | (with_reducible (show Hold _ _ _ _ _); first | refine s_seq rfl ?_ | refine s_block rfl ?_ | refine s_region rfl ?_ | refine s_draw rfl Tryz.mixed (by kernel_rfl) ?_ | refine s_skip rfl ?_ | refine s_exit rfl ?_ | refine s_label rfl ?_ | (refine s_cond rfl ⟨_, rfl, fun hb => ?_, fun hb => ?_⟩ <;> (have hc := hb; try simp only [go_sem] at hc)) | refine s_ret rfl ?_) | (with_reducible (show callA _ _ _ _ _ _); first | (refine call_n (s1) ?_ ?_ ?_ ?_; (focus (simp only [go_sem, *]; done)); (focus (first | (simp; done) | (simp [go_sem]; done))); (focus (first | (simp; done) | (simp [go_sem]; done))); simp only [go_sem, *]) | (refine call_of [0] [] (s2) (by simp) ?_ ?_ (by simp) (.inl rfl) ?_ ?_ ?_; (focus (simp only [go_sem, *]; done)); (focus (simp only [go_sem, *]; done)); (focus (first | (simp; done) | (simp [go_sem]; done))); (focus (first | (simp; done) | (simp [go_sem]; done))); simp only [go_sem, *]) | (refine call_of [0] [] (s3) (by simp) ?_ ?_ (by simp) (.inl rfl) ?_ ?_ ?_; (focus (simp only [go_sem, *]; done)); (focus (simp only [go_sem, *]; done)); (focus (first | (simp; done) | (simp [go_sem]; done))); (focus (first | (simp; done) | (simp [go_sem]; done))); simp only [go_sem, *]) | (refine call_s (s4) ?_ ?_; (focus (simp only [go_sem, *]; done)); simp only [go_sem, *]) | (refine call_s (s5) ?_ ?_; (focus (simp only [go_sem, *]; done)); simp only [go_sem, *]) | (refine call_s (s6) ?_ ?_; (focus (simp only [go_sem, *]; done)); simp only [go_sem, *]) | (refine call_n (s7) ?_ ?_ ?_ ?_; (focus (simp only [go_sem, *]; done)); (focus (first | (simp; done) | (simp [go_sem]; done))); (focus (first | (simp; done) | (simp [go_sem]; done))); simp only [go_sem, *]) | (refine call_n (s8) ?_ ?_ ?_ ?_; (focus (simp only [go_sem, *]; done)); (focus (first | (simp; done) | (simp [go_sem]; done))); (focus (first | (simp; done) | (simp [go_sem]; done))); simp only [go_sem, *]) | (refine call_s (sw) ?_ ?_; (focus (simp only [go_sem, *]; done)); simp only [go_sem, *])) | (with_reducible (show indepB _ _ = true ∧ _); refine And.intro (by kernel_rfl) ?_) | (with_reducible (show _ ∧ _); refine And.intro (by omega) ?_) | (refine contA_of hK ?_; clear hK K'; simp only [go_sem, *]) | (simp only [thenA, inBlockA, go_sem, *]))
        all_goals first | contradiction | skip
        (refine ⟨[_], [], [], ⟨rfl, trivial⟩, ?_⟩; simp only [go_sem, *])
  · rw [if_neg e] at s4
    have e2 : (errOf p c == 0) = false := by rw [beq_eq_false_iff_ne]; exact e
    generalize errOf p c = er at *
    refine spec_body Tryz.func5 rfl (fun E hE => ?_); simp only [go_sem, Tryz.ntmps5]
    repeat' (first | (with_reducible (show runOps _ _ _ _ _ _); first | (refine Qo fun K' hK => ?_; simp only [go_sem, *]) | refine run_nil ?_ | (refine Qy rfl rfl rfl fun K' hK => ?_; simp only [go_sem, *]) | (refine Qx rfl rfl rfl ?_; simp only [go_sem, *]) | (refine Qu rfl rfl rfl ?_; simp only [go_sem, *]) | (refine Qi rfl rfl rfl (fun hb K' hK => ?_) (fun hb => ?_) <;> (have hc := hb; try simp only [go_sem] at hc; simp only [go_sem, *]))) | (with_reducible (show Hold _ _ _ _ _); first | refine s_seq rfl ?_ | refine s_block rfl ?_ | refine s_region rfl ?_ | refine s_draw rfl Tryz.mixed (by kernel_rfl) ?_ | refine s_skip rfl ?_ | refine s_exit rfl ?_ | refine s_label rfl ?_ | (refine s_cond rfl ⟨_, rfl, fun hb => ?_, fun hb => ?_⟩ <;> (have hc := hb; try simp only [go_sem] at hc)) | refine s_ret rfl ?_) | (with_reducible (show callA _ _ _ _ _ _); first | (refine call_n (s1) ?_ ?_ ?_ ?_; (focus (simp only [go_sem, *]; done)); (focus (first | (simp; done) | (simp [go_sem]; done))); (focus (first | (simp; done) | (simp [go_sem]; done))); simp only [go_sem, *]) | (refine call_of [0] [] (s2) (by simp) ?_ ?_ (by simp) (.inl rfl) ?_ ?_ ?_; (focus (simp only [go_sem, *]; done)); (focus (simp only [go_sem, *]; done)); (focus (first | (simp; done) | (simp [go_sem]; done))); (focus (first | (simp; done) | (simp [go_sem]; done))); simp only [go_sem, *]) | (refine call_of [0] [] (s3) (by simp) ?_ ?_ (by simp) (.inl rfl) ?_ ?_ ?_; (focus (simp only [go_sem, *]; done)); (focus (simp only [go_sem, *]; done)); (focus (first | (simp; done) | (simp [go_sem]; done))); (focus (first | (simp; done) | (simp [go_sem]; done))); simp only [go_sem, *]) | (refine call_s (s4) ?_ ?_; (focus (simp only [go_sem, *]; done)); simp only [go_sem, *]) | (refine call_s (sw) ?_ ?_; (focus (simp only [go_sem, *]; done)); simp only [go_sem, *])) | (with_reducible (show indepB _ _ = true ∧ _); refine And.intro (by kernel_rfl) ?_) | (with_reducible (show _ ∧ _); refine And.intro (by omega) ?_) | (refine contA_of hK ?_; clear hK K'; simp only [go_sem, *]) | (simp only [thenA, inBlockA, go_sem, *]))
    all_goals first | contradiction | skip
    (refine ⟨[_], [], [], ⟨rfl, trivial⟩, ?_⟩; simp only [go_sem, *])
end Go.Abs

