/-
  WHAT THE PROOF STANDS ON, PART 5: contracts of the program's functions and the logic that they are proved in. No condition.
-/
import Derived.Test.YtmhleaopjcfjnaaGreatQ4
set_option linter.unusedVariables false
set_option linter.unusedSimpArgs false
set_option linter.unusedSectionVars false
namespace Go.Abs
open Go Go.Proofs
set_option maxRecDepth 10000
set_option maxHeartbeats 4000000
theorem sp_truths1 (fn : FuncId) (s : Story) (o : Told s) :
  Spec Tryz.prog 161 [.yld 2, .ptr 0 0] [.box [.ptr 1 0], taleBox s, .loopo (askedK fn) [(7, .ptr 3 0)] (some none), .box [.own 4 3 0 0], .row 3 []] (.tup [])
   [.box [.ptr 1 0], taleBox s, .loopo (askedK fn) [(7, .ptr 3 0)] (some none), .box [.own 5 3 0 (truthsOf s).length], .dead, .row 3 ((truthsOf s).map (Truth.enc s.first))] := by
 have v := o.first
 have hl := truths_len o.steps (fun w hw => (o.ways w hw).2.1)
 have sg := sp_grow fn s o s.steps.length (firstT s) (firstT_ok v) [] (by unfold truthsOf at hl; simp only [List.length_nil]; omega)
 rw [List.nil_append] at sg
 have hca : callable Tryz.prog 162 = true := by kernel_rfl
 have sc := sp_copied s.first v
 have ss := sp_stay s.first v
 have ht : growT s s.steps.length (firstT s) = truthsOf s := rfl
 rw [ht] at sg
 generalize truthsOf s = l at *
 clear ht
 refine spec_body Tryz.func161 rfl (fun E hE => ?_); simp only [go_sem, Tryz.ntmps161]
 repeat' (first | (with_reducible (show runOps ..); first | (refine Qr rfl ?_; try intro K' hK; try simp only [go_sem, *])) | (with_reducible (show Hold ..); first | refine Qh rfl ?_ | refine s_draw rfl Tryz.mixed (by kernel_rfl) ?_ | (refine s_cond rfl ⟨_, rfl, fun hb => ?_, fun hb => ?_⟩ <;> (have hc := hb; try simp only [go_sem] at hc)) | refine s_ret rfl ?_) | (with_reducible (show callA ..); first | (refine call_s (sc) ?_ ?_; (focus (simp only [go_sem, *]; done)); simp only [go_sem, *]) | (refine call_n (ss) ?_ ?_ ?_ ?_; (focus (simp only [go_sem, *]; done)); (focus (first | (simp; done) | (simp [go_sem]; done))); (focus (first | (simp; done) | (simp [go_sem]; done))); simp only [go_sem, *])) | ((with_reducible refine Qb ?_ ?_); focus kernel_rfl) | ((with_reducible refine And.intro ?_ ?_); focus omega) | (refine contA_of hK ?_; clear hK K'; simp only [go_sem, *]) | (simp only [thenA, inBlockA, go_sem, *]))
 refine call_fzi [0, 5, 6, 1, 2, 3, 4] [7] sg rfl (by simp only [go_sem]) (by simp) ?_ ?_ (by simp [go_sem]) (by simp [go_sem]) ?_
 ·simp only [go_sem, *]
  exact ⟨rfl, rfl, rfl⟩
 ·simp only [go_sem, *]
 simp only [go_sem, deads, *]
 repeat' (first | (with_reducible (show runOps ..); first | (refine Qr rfl ?_; try intro K' hK; try simp only [go_sem, *])) | (with_reducible (show Hold ..); first | refine Qh rfl ?_ | refine s_draw rfl Tryz.mixed (by kernel_rfl) ?_ | (refine s_cond rfl ⟨_, rfl, fun hb => ?_, fun hb => ?_⟩ <;> (have hc := hb; try simp only [go_sem] at hc)) | refine s_ret rfl ?_) | ((with_reducible refine Qb ?_ ?_); focus kernel_rfl) | ((with_reducible refine And.intro ?_ ?_); focus omega) | (refine contA_of hK ?_; clear hK K'; simp only [go_sem, *]) | (simp only [thenA, inBlockA, go_sem, *]))
 refine ⟨[], [some 0, some 1, some 2, some 3, some 4, some 8], [], trivial, ?_⟩
 simp only [go_sem, *]
theorem sp_truths (s : Story) : Spec Tryz.prog 139 [.ptr 0 0] [taleBox s] (.fn 161 [.ptr 1 0]) [taleBox s, .box [.ptr 0 0]] := by
 refine spec_body Tryz.func139 rfl (fun E hE => ?_); simp only [go_sem, Tryz.ntmps139]
 repeat' (first | (with_reducible (show runOps ..); first | (refine Qr rfl ?_; try intro K' hK; try simp only [go_sem, *])) | (with_reducible (show Hold ..); first | refine Qh rfl ?_ | (refine s_cond rfl ⟨_, rfl, fun hb => ?_, fun hb => ?_⟩ <;> (have hc := hb; try simp only [go_sem] at hc)) | refine s_ret rfl ?_) | ((with_reducible refine Qb ?_ ?_); focus kernel_rfl) | ((with_reducible refine And.intro ?_ ?_); focus omega) | (refine contA_of hK ?_; clear hK K'; simp only [go_sem, *]) | (simp only [thenA, inBlockA, go_sem, *]))
 refine ⟨[_], [some 0, some 1], [], ⟨rfl, trivial⟩, ?_⟩
 simp only [go_sem, *]
theorem sp_asked_ok (s : Story) (h : storyErr s = 0) :
  Spec Tryz.prog 100 [s.enc] [] (.tup [.ptr 0 0, .list ((truthsOf s).map (Truth.enc s.first)), iV 0]) [taleBox s] := by
 have o := story_zero h
 have hl := truths_len o.steps (fun w hw => (o.ways w hw).2.1)
 have sb := sp_begin s (by have := o.steps; omega) (fun w hw => by have := (o.ways w hw).2.1; omega) (by have := o.facts; omega) (by have := o.first.len; omega) (.tup [.ptr 0 0, iV 0]) [taleBox s] (storyErr s) rfl ⟨fun _ => ⟨rfl, rfl⟩, fun e => absurd h e⟩
 have st := sp_truths s
 have s1 := fun fn => sp_truths1 fn s o
 generalize truthsOf s = l at *
 refine spec_body Tryz.func100 rfl (fun E hE => ?_); simp only [go_sem, Tryz.ntmps100]
 repeat' (first | (with_reducible (show runOps ..); first | (refine Qr rfl ?_; try intro K' hK; try simp only [go_sem, *])) | (with_reducible (show Hold ..); first | refine Qh rfl ?_ | (refine s_cond rfl ⟨_, rfl, fun hb => ?_, fun hb => ?_⟩ <;> (have hc := hb; try simp only [go_sem] at hc)) | refine s_ret rfl ?_) | (with_reducible (show callA ..); first | (refine call_n (sb) ?_ ?_ ?_ ?_; (focus (simp only [go_sem, *]; done)); (focus (first | (simp; done) | (simp [go_sem]; done))); (focus (first | (simp; done) | (simp [go_sem]; done))); simp only [go_sem, *])) | ((with_reducible refine Qb ?_ ?_); focus kernel_rfl) | ((with_reducible refine And.intro ?_ ?_); focus omega) | (refine contA_of hK ?_; clear hK K'; simp only [go_sem, *]) | (simp only [thenA, inBlockA, go_sem, *]))
 all_goals first | contradiction | skip
 refine call_of [1] [] st (by simp) (by simp only [go_sem]) (by simp only [go_sem]) (by simp) (.inl rfl) (by simp [go_sem]) (by simp [go_sem]) ?_
 simp only [go_sem]
 repeat' (first | (with_reducible (show runOps ..); first | (refine Qr rfl ?_; try intro K' hK; try simp only [go_sem, *])) | (with_reducible (show Hold ..); first | refine Qh rfl ?_ | (refine s_cond rfl ⟨_, rfl, fun hb => ?_, fun hb => ?_⟩ <;> (have hc := hb; try simp only [go_sem] at hc)) | refine s_ret rfl ?_) | ((with_reducible refine Qb ?_ ?_); focus kernel_rfl) | ((with_reducible refine And.intro ?_ ?_); focus omega) | (refine contA_of hK ?_; clear hK K'; simp only [go_sem, *]) | (simp only [thenA, inBlockA, go_sem, *]))
 refine hold_weak (N := 26) (env := [(18, .fn 161 [.ptr 1 0]), (7, .ptr 2 0), (5, .ptr 0 0)]) (As := [taleBox s, .box [.ptr 0 0], .box [.own 3 3 0 0], .row 3 []]) [some 1, some 3, some 2, none] [] (by (simp only [Weak, go_sem, List.map_append, List.map_set, *] <;> (try simp (disch := omega) only [wrap_succ]) <;> (try simp) <;> (try omega))) ?_
 refine s_range (f := 161) (caps := [.ptr 1 0]) rfl (by simp only [go_sem]) (by kernel_rfl) (nx := 4) (by simp only [go_sem]) (fun fn => ⟨5, ?_⟩)
 refine call_of [1, 0, 4, 2, 3] [] (s1 fn) (by simp) (by simp only [go_sem]) ?_ (by simp) (.inl rfl) (by simp [go_sem]) (by simp [go_sem]) ?_
 ·simp only [go_sem, *]
  rfl
 ·simp only [go_sem, *]
  refine ⟨askedK fn, [(7, .ptr 2 0)], none, by simp only [go_sem], ?_⟩
  simp only [go_sem]
  repeat' (first | (with_reducible (show runOps ..); first | (refine Qr rfl ?_; try intro K' hK; try simp only [go_sem, *])) | (with_reducible (show Hold ..); first | refine Qh rfl ?_ | refine s_draw rfl Tryz.mixed (by kernel_rfl) ?_ | (refine s_cond rfl ⟨_, rfl, fun hb => ?_, fun hb => ?_⟩ <;> (have hc := hb; try simp only [go_sem] at hc)) | refine s_ret rfl ?_) | ((with_reducible refine Qb ?_ ?_); focus kernel_rfl) | ((with_reducible refine And.intro ?_ ?_); focus omega) | (refine contA_of hK ?_; clear hK K'; simp only [go_sem, *]) | (simp only [thenA, inBlockA, go_sem, *]))
  refine ⟨[_, _, _], [some 0], [5], ⟨rfl, rfl, rfl, trivial⟩, ?_⟩
  simp only [go_sem, *]
  simp [List.take_of_length_le]
end Go.Abs

namespace Go.Abs
open Go Go.Proofs
set_option maxRecDepth 10000
set_option maxHeartbeats 4000000
attribute [go_sem] Nat.le_refl
section
variable {H : Nat → AObj} {m : List (Option Nat)} {ex : List Nat} {α : Type}
@[go_sem, simp] theorem XpL_take_lists (f : α → List AV) (l : List α) (i : Nat) (ys zs : List AV) : XpL H m ex (List.take i (List.map (fun t => AV.list (f t)) l) ++ [AV.list ys]) (List.take i (List.map (fun t => AV.list (f t)) l) ++ [AV.list zs]) ↔ ys = zs := by
 rw [XpL_app _ (fun z hz => by
  obtain ⟨t, _, rfl⟩ := List.mem_map.1 (List.mem_of_mem_take hz)
  simp only [XpF])]
 simp only [XpF]
@[go_sem, simp] theorem XpL_map_lists (f : α → List AV) (l : List α) (ys zs : List AV) : XpL H m ex (List.map (fun t => AV.list (f t)) l ++ [AV.list ys]) (List.map (fun t => AV.list (f t)) l ++ [AV.list zs]) ↔ ys = zs := by
 rw [XpL_app _ (fun z hz => by
  obtain ⟨t, _, rfl⟩ := List.mem_map.1 hz
  simp only [XpF])]
 simp only [XpF]
end
theorem sp_Truths_ok (s : Story) (h : storyErr s = 0) : Spec Tryz.prog 39 [s.enc] [] (.tup [.list ((waysOf s).map encInts), iV 0]) [] := by
 have o := story_zero h
 have hl := truths_len o.steps (fun w hw => (o.ways w hw).2.1)
 have sa := sp_asked_ok s h
 unfold waysOf
 generalize truthsOf s = l at *
 refine spec_body Tryz.func39 rfl (fun E hE => ?_); simp only [go_sem, Tryz.ntmps39]
 repeat' (first | (with_reducible (show runOps ..); first | (refine Qr rfl ?_; try intro K' hK; try simp only [go_sem, *])) | (with_reducible (show Hold ..); first | refine Qh rfl ?_ | (refine s_cond rfl ⟨_, rfl, fun hb => ?_, fun hb => ?_⟩ <;> (have hc := hb; try simp only [go_sem] at hc)) | refine s_ret rfl ?_) | (with_reducible (show callA ..); first | (refine call_n (sa) ?_ ?_ ?_ ?_; (focus (simp only [go_sem, *]; done)); (focus (first | (simp; done) | (simp [go_sem]; done))); (focus (first | (simp; done) | (simp [go_sem]; done))); simp only [go_sem, *])) | ((with_reducible refine Qb ?_ ?_); focus kernel_rfl) | ((with_reducible refine And.intro ?_ ?_); focus omega) | (refine contA_of hK ?_; clear hK K'; simp only [go_sem, *]) | (simp only [thenA, inBlockA, go_sem, *]))
 all_goals first | contradiction | skip
 refine s_loop rfl (fun zn zN zenv zAs => ∃ (i : Nat), zn = (l.length) - i ∧ i ≤ (l.length) ∧ (NoP i) ∧ zN = 32 ∧ zenv = [(21, iV i), (20, iV l.length), (19, .list (l.map (Truth.enc s.first))), (7, .own 0 1 0 i)] ∧ zAs = [.box ((l.take i).map fun t => encInts t.ways)]) (l.length) ⟨[none], [], _, _, _, (by (simp only [Weak, go_sem, List.map_append, List.map_set, *] <;> (try simp (disch := omega) only [wrap_succ]) <;> (try simp) <;> (try omega))), 0, (by simp), (by simp), (by trivial), rfl, rfl, rfl⟩ ?_; rintro _ _ _ _ ⟨i, rfl, hi, hP, rfl, rfl, rfl⟩
 by_cases hi2 : i < l.length
 ·have e := take_succ_getD (l := l) (i := i) hi2
  repeat' (first | (with_reducible (show runOps ..); first | (refine Qr rfl ?_; try intro K' hK; try simp only [go_sem, *])) | (with_reducible (show Hold ..); first | refine Qh rfl ?_ | (refine s_cond rfl ⟨_, rfl, fun hb => ?_, fun hb => ?_⟩ <;> (have hc := hb; try simp only [go_sem] at hc)) | refine s_ret rfl ?_) | ((with_reducible refine Qb ?_ ?_); focus kernel_rfl) | ((with_reducible refine And.intro ?_ ?_); focus omega) | (refine contA_of hK ?_; clear hK K'; simp only [go_sem, *]) | (simp only [thenA, inBlockA, go_sem, *]))
  refine ⟨_, (by omega), [some 3], [], _, _, _, (by (simp only [Weak, go_sem, List.map_append, List.map_set, *] <;> (try simp (disch := omega) only [wrap_succ]) <;> (try simp) <;> (try omega))), i + 1, rfl, (by omega), (by trivial), rfl, rfl, rfl⟩
 ·have e : l.take i = l := List.take_of_length_le (by omega)
  repeat' (first | (with_reducible (show runOps ..); first | (refine Qr rfl ?_; try intro K' hK; try simp only [go_sem, *])) | (with_reducible (show Hold ..); first | refine Qh rfl ?_ | (refine s_cond rfl ⟨_, rfl, fun hb => ?_, fun hb => ?_⟩ <;> (have hc := hb; try simp only [go_sem] at hc)) | refine s_ret rfl ?_) | ((with_reducible refine Qb ?_ ?_); focus kernel_rfl) | ((with_reducible refine And.intro ?_ ?_); focus omega) | (refine contA_of hK ?_; clear hK K'; simp only [go_sem, *]) | (simp only [thenA, inBlockA, go_sem, *]))
  refine ⟨[_, _], [], [0], ⟨rfl, rfl, trivial⟩, ?_⟩
  simp only [go_sem, *]
  exact ⟨by omega, fun x hx => by obtain ⟨_, _, rfl⟩ := List.mem_map.1 hx; rfl, .inl (by simp [Function.comp_def])⟩
theorem sp_Where_ok (s : Story) (h : House) (he : whereErr s h = 0) (hn : (whereL s h).Nodup) (h12 : (whereL s h).length ≤ 12) :
  Spec Tryz.prog 58 [s.enc, h.enc] [] (.tup [.list ((whereOf s h).map House.enc), iV 0]) [] := by
 have hs : storyErr s = 0 := by
  unfold whereErr at he
  split at he <;> assumption
 have hh : h ∈ housesOf s.first := by
  unfold whereErr at he
  rw [if_pos hs] at he
  by_cases q : h ∈ housesOf s.first
  ·exact q
  ·rw [if_neg q] at he; omega
 have hne : truthsOf s ≠ [] := by
  unfold whereErr at he
  rw [if_pos hs, if_pos hh] at he
  intro e
  rw [if_pos e] at he; omega
 have o := story_zero hs
 have hl := truths_len o.steps (fun w hw => (o.ways w hw).2.1)
 have ht := truths_ok o.first
 have sa := sp_asked_ok s hs
 have sc := sp_Contains_place (housesOf s.first) h (by have := o.first.count; omega)
 have e0 : decide (h ∈ housesOf s.first) = true := by simpa using hh
 rw [e0] at sc
 have ss := sp_sorted (whereL s h) hn h12
 have hw := o.first.wf
 have hwf := hw _ hh
 have h3 := o.steps
 have hsm : ∀ t, t ∈ truthsOf s → (t.now h).length ≤ 8 := fun t hm => (ht t hm).small h3 hh
 unfold whereOf
 have hwl : ([] : List House) ++ ((truthsOf s).drop 0).flatMap (fun t => t.now h) = whereL s h := rfl
 generalize whereL s h = W at *
 generalize truthsOf s = l at *
 have hl0 : ((l.length : Int) == 0) = false := by
  have : 0 < l.length := List.length_pos_iff.2 hne
  simp; omega
 clear he e0 ht hne
 refine spec_body Tryz.func58 rfl (fun E hE => ?_); simp only [go_sem, Tryz.ntmps58]
 repeat' (first | (with_reducible (show runOps ..); first | (refine Qr rfl ?_; try intro K' hK; try simp only [go_sem, *])) | (with_reducible (show Hold ..); first | refine Qh rfl ?_ | refine s_draw rfl Tryz.mixed (by kernel_rfl) ?_ | (refine s_cond rfl ⟨_, rfl, fun hb => ?_, fun hb => ?_⟩ <;> (have hc := hb; try simp only [go_sem] at hc)) | refine s_ret rfl ?_) | (with_reducible (show callA ..); first | (refine call_n (sa) ?_ ?_ ?_ ?_; (focus (simp only [go_sem, *]; done)); (focus (first | (simp; done) | (simp [go_sem]; done))); (focus (first | (simp; done) | (simp [go_sem]; done))); simp only [go_sem, *]) | (refine call_s (sc) ?_ ?_; (focus (simp only [go_sem, *]; done)); simp only [go_sem, *])) | ((with_reducible refine Qb ?_ ?_); focus kernel_rfl) | ((with_reducible refine And.intro ?_ ?_); focus omega) | (refine contA_of hK ?_; clear hK K'; simp only [go_sem, *]) | (simp only [thenA, inBlockA, go_sem, *]))
 all_goals first | contradiction | skip
 refine s_loop rfl (fun zn zN zenv zAs => ∃ (i : Nat) (acc : List House), zn = (l.length) - i ∧ i ≤ (l.length) ∧ (acc ++ (l.drop i).flatMap (fun t => t.now h) = W) ∧ zN = 46 ∧ zenv = [(33, iV i), (32, iV l.length), (31, .list (l.map (Truth.enc s.first))), (9, .own 1 3 0 acc.length), (3, .ptr 0 0)] ∧ zAs = [.box [iV h.street, iV h.plate.number, iV h.plate.letter], .row 3 (acc.map House.enc)]) (l.length) ⟨[some 1, none], [], _, _, _, (by (simp only [Weak, go_sem, List.map_append, List.map_set, *] <;> (try simp (disch := omega) only [wrap_succ]) <;> (try simp) <;> (try omega))), 0, [], (by simp), (by simp), (by exact hwl), rfl, rfl, rfl⟩ ?_; rintro _ _ _ _ ⟨i, acc, rfl, hi, hP, rfl, rfl, rfl⟩
 clear hwl
 have hql := congrArg List.length hP
 simp only [List.length_append] at hql
 by_cases hi2 : i < l.length
 ·have hti := hsm _ (getD_mem hi2)
  rw [drop_cons hi2, List.flatMap_cons] at hP
  repeat' (first | (with_reducible (show runOps ..); first | (refine Qr rfl ?_; try intro K' hK; try simp only [go_sem, *])) | (with_reducible (show Hold ..); first | refine Qh rfl ?_ | refine s_draw rfl Tryz.mixed (by kernel_rfl) ?_ | (refine s_cond rfl ⟨_, rfl, fun hb => ?_, fun hb => ?_⟩ <;> (have hc := hb; try simp only [go_sem] at hc)) | refine s_ret rfl ?_) | ((with_reducible refine Qb ?_ ?_); focus kernel_rfl) | ((with_reducible refine And.intro ?_ ?_); focus omega) | (refine contA_of hK ?_; clear hK K'; simp only [go_sem, *]) | (simp only [thenA, inBlockA, go_sem, *]))
  refine look_fhouse (h := h) (hs := housesOf s.first) (F := MapV (l.getD i default).now) hw hwf ?_
  rw [if_pos hh, MapV]
  repeat' (first | (with_reducible (show runOps ..); first | (refine Qr rfl ?_; try intro K' hK; try simp only [go_sem, *])) | (with_reducible (show Hold ..); first | refine Qh rfl ?_ | refine s_draw rfl Tryz.mixed (by kernel_rfl) ?_ | (refine s_cond rfl ⟨_, rfl, fun hb => ?_, fun hb => ?_⟩ <;> (have hc := hb; try simp only [go_sem] at hc)) | refine s_ret rfl ?_) | ((with_reducible refine Qb ?_ ?_); focus kernel_rfl) | ((with_reducible refine And.intro ?_ ?_); focus omega) | (refine contA_of hK ?_; clear hK K'; simp only [go_sem, *]) | (simp only [thenA, inBlockA, go_sem, *]))
  refine ⟨fun y hy => ?_, fun y hy => ?_, by omega, ?_⟩
  ·obtain ⟨z, _, rfl⟩ := List.mem_map.1 hy
   simp [go_sem]
  ·obtain ⟨z, _, rfl⟩ := List.mem_map.1 hy
   simp [go_sem]
  ·repeat' (first | (with_reducible (show runOps ..); first | (refine Qr rfl ?_; try intro K' hK; try simp only [go_sem, *])) | (with_reducible (show Hold ..); first | refine Qh rfl ?_ | refine s_draw rfl Tryz.mixed (by kernel_rfl) ?_ | (refine s_cond rfl ⟨_, rfl, fun hb => ?_, fun hb => ?_⟩ <;> (have hc := hb; try simp only [go_sem] at hc)) | refine s_ret rfl ?_) | ((with_reducible refine Qb ?_ ?_); focus kernel_rfl) | ((with_reducible refine And.intro ?_ ?_); focus omega) | (refine contA_of hK ?_; clear hK K'; simp only [go_sem, *]) | (simp only [thenA, inBlockA, go_sem, *]))
   refine ⟨_, (by omega), [some 0, some 3], [], _, _, _, (by (simp only [Weak, go_sem, List.map_append, List.map_set, *] <;> (try simp (disch := omega) only [wrap_succ]) <;> (try simp) <;> (try omega))), i + 1, acc ++ (l.getD i default).now h, rfl, (by omega), (by rw [← hP]; simp), rfl, rfl, rfl⟩
 ·rw [drop_end (by omega), List.flatMap_nil, List.append_nil] at hP
  subst hP
  clear hql
  repeat' (first | (with_reducible (show runOps ..); first | (refine Qr rfl ?_; try intro K' hK; try simp only [go_sem, *])) | (with_reducible (show Hold ..); first | refine Qh rfl ?_ | refine s_draw rfl Tryz.mixed (by kernel_rfl) ?_ | (refine s_cond rfl ⟨_, rfl, fun hb => ?_, fun hb => ?_⟩ <;> (have hc := hb; try simp only [go_sem] at hc)) | refine s_ret rfl ?_) | ((with_reducible refine Qb ?_ ?_); focus kernel_rfl) | ((with_reducible refine And.intro ?_ ?_); focus omega) | (refine contA_of hK ?_; clear hK K'; simp only [go_sem, *]) | (simp only [thenA, inBlockA, go_sem, *]))
  (refine call_fz (ss) (by simp only [go_sem, *]; done) rfl (by simp only [go_sem]; done) (by simp) (by simp) ?_; simp only [go_sem, deads, *])
  repeat' (first | (with_reducible (show runOps ..); first | (refine Qr rfl ?_; try intro K' hK; try simp only [go_sem, *])) | (with_reducible (show Hold ..); first | refine Qh rfl ?_ | refine s_draw rfl Tryz.mixed (by kernel_rfl) ?_ | (refine s_cond rfl ⟨_, rfl, fun hb => ?_, fun hb => ?_⟩ <;> (have hc := hb; try simp only [go_sem] at hc)) | refine s_ret rfl ?_) | ((with_reducible refine Qb ?_ ?_); focus kernel_rfl) | ((with_reducible refine And.intro ?_ ?_); focus omega) | (refine contA_of hK ?_; clear hK K'; simp only [go_sem, *]) | (simp only [thenA, inBlockA, go_sem, *]))
  (refine ⟨[_, _], [], [], ⟨rfl, rfl, trivial⟩, ?_⟩; simp only [go_sem, *])
  trace_state
def AskR : Option (House × Nat) → AV → Prop
 | some (h, n), R => R = .tup [h.enc, iV n, iV 0]
 | none, R => R = .tup [(⟨0, ⟨0, 0⟩⟩ : House).enc, iV 0, iV 11]
theorem sp_Ask_ok (s : Story) (h : storyErr s = 0) (R : AV) (hR : AskR (askOf s) R) :
  Spec Tryz.prog 46 [s.enc] [] R [] := by
 have o := story_zero h
 have v := o.first
 have hct := v.count
 have h3 := o.steps
 have hl := truths_len h3 (fun w hw => (o.ways w hw).2.1)
 have ht := truths_ok v
 have sa := sp_asked_ok s h
 have hsm : ∀ t, t ∈ truthsOf s → ∀ x, x ∈ housesOf s.first → (t.now x).length ≤ 1000 := fun t hm x hx => by have := (ht t hm).small h3 hx; omega
 unfold askOf groupsOf at hR
 generalize truthsOf s = l at *
 clear ht
 have hgs : ∀ x, x ∈ (housesOf s.first).map (groupOf l) → x ≤ 1000 := fun x hx => by
  obtain ⟨y, _, rfl⟩ := List.mem_map.1 hx
  have := groupOf_le l y; omega
 have sl := sp_least ((housesOf s.first).map (groupOf l)) (by simp; omega) hgs
 refine spec_body Tryz.func46 rfl (fun E hE => ?_); simp only [go_sem, Tryz.ntmps46]
 repeat' (first | (with_reducible (show runOps ..); first | (refine Qr rfl ?_; try intro K' hK; try simp only [go_sem, *]) | (refine Qi rfl rfl rfl rfl (fun hb K' hK => ?_) (fun hb => ?_) <;> (have hc := hb; try simp only [go_sem] at hc; simp only [go_sem, *]))) | (with_reducible (show Hold ..); first | refine Qh rfl ?_ | refine s_draw rfl Tryz.mixed (by kernel_rfl) ?_ | (refine s_cond rfl ⟨_, rfl, fun hb => ?_, fun hb => ?_⟩ <;> (have hc := hb; try simp only [go_sem] at hc)) | refine s_ret rfl ?_) | (with_reducible (show callA ..); first | (refine call_n (sa) ?_ ?_ ?_ ?_; (focus (simp only [go_sem, *]; done)); (focus (first | (simp; done) | (simp [go_sem]; done))); (focus (first | (simp; done) | (simp [go_sem]; done))); simp only [go_sem, *])) | ((with_reducible refine Qb ?_ ?_); focus kernel_rfl) | ((with_reducible refine And.intro ?_ ?_); focus omega) | (refine contA_of hK ?_; clear hK K'; simp only [go_sem, *]) | (simp only [thenA, inBlockA, go_sem, *]))
 all_goals first | contradiction | skip
 refine s_loop rfl (fun zn zN zenv zAs => ∃ (i : Nat), zn = ((housesOf s.first).length) - i ∧ i ≤ ((housesOf s.first).length) ∧ (NoP i) ∧ zN = 67 ∧ zenv = [(26, iV i), (25, iV (housesOf s.first).length), (24, .list ((housesOf s.first).map House.enc)), (7, .own 2 1 0 i), (6, .list (l.map (Truth.enc s.first))), (5, .ptr 1 0), (2, .ptr 0 0)] ∧ zAs = [.box [iV 0, iV 0, iV 0], taleBox s, .row 1 (((housesOf s.first).take i).map fun x => iV (groupOf l x : Nat))]) ((housesOf s.first).length) ⟨[some 1, some 2, none], [], _, _, _, (by (simp only [Weak, go_sem, List.map_append, List.map_set, *] <;> (try simp (disch := omega) only [wrap_succ]) <;> (try simp) <;> (try omega))), 0, (by simp), (by simp), (by trivial), rfl, rfl, rfl⟩ ?_; rintro _ _ _ _ ⟨i, rfl, hi, hP, rfl, rfl, rfl⟩
 by_cases hi2 : i < (housesOf s.first).length
 ·have e := take_succ_getD (l := housesOf s.first) (i := i) hi2
  have hm := getD_mem hi2
  have sg := sp_group s.first l ((housesOf s.first).getD i default) v hm (by omega) (fun t ht => hsm t ht _ hm)
  repeat' (first | (with_reducible (show runOps ..); first | (refine Qr rfl ?_; try intro K' hK; try simp only [go_sem, *]) | (refine Qi rfl rfl rfl rfl (fun hb K' hK => ?_) (fun hb => ?_) <;> (have hc := hb; try simp only [go_sem] at hc; simp only [go_sem, *]))) | (with_reducible (show Hold ..); first | refine Qh rfl ?_ | refine s_draw rfl Tryz.mixed (by kernel_rfl) ?_ | (refine s_cond rfl ⟨_, rfl, fun hb => ?_, fun hb => ?_⟩ <;> (have hc := hb; try simp only [go_sem] at hc)) | refine s_ret rfl ?_) | (with_reducible (show callA ..); first | (refine call_s (sg) ?_ ?_; (focus (simp only [go_sem, *]; done)); simp only [go_sem, *])) | ((with_reducible refine Qb ?_ ?_); focus kernel_rfl) | ((with_reducible refine And.intro ?_ ?_); focus omega) | (refine contA_of hK ?_; clear hK K'; simp only [go_sem, *]) | (simp only [thenA, inBlockA, go_sem, *]))
  refine ⟨_, (by omega), [some 0, some 1, some 5], [], _, _, _, (by (simp only [Weak, go_sem, List.map_append, List.map_set, *] <;> (try simp (disch := omega) only [wrap_succ]) <;> (try simp) <;> (try omega))), i + 1, rfl, (by omega), (by trivial), rfl, rfl, rfl⟩
 ·have e : (housesOf s.first).take i = housesOf s.first := List.take_of_length_le (by omega)
  have e2 : (housesOf s.first).length ≤ i := by omega
  have hlr := leastOf_range (g := (housesOf s.first).map (groupOf l))
  obtain ⟨a, ha⟩ : ∃ a, a = leastOf ((housesOf s.first).map (groupOf l)) := ⟨_, rfl⟩
  have hneg : (housesOf s.first).length = 0 → a < 0 := fun h => by
   rw [ha, List.eq_nil_of_length_eq_zero h]; show leastOf [] < 0; decide
  rw [← ha] at sl hlr hR
  simp only [List.length_map] at hlr
  clear ha
  repeat' (first | (with_reducible (show runOps ..); first | (refine Qr rfl ?_; try intro K' hK; try simp only [go_sem, *]) | (refine Qi rfl rfl rfl rfl (fun hb K' hK => ?_) (fun hb => ?_) <;> (have hc := hb; try simp only [go_sem] at hc; simp only [go_sem, *]))) | (with_reducible (show Hold ..); first | refine Qh rfl ?_ | refine s_draw rfl Tryz.mixed (by kernel_rfl) ?_ | (refine s_cond rfl ⟨_, rfl, fun hb => ?_, fun hb => ?_⟩ <;> (have hc := hb; try simp only [go_sem] at hc)) | refine s_ret rfl ?_) | ((with_reducible refine Qb ?_ ?_); focus kernel_rfl) | ((with_reducible refine And.intro ?_ ?_); focus omega) | (refine contA_of hK ?_; clear hK K'; simp only [go_sem, *]) | (simp only [thenA, inBlockA, go_sem, *]))
  refine call_x [2] sl ?_ (.raw _) ?_
  ·simp only [go_sem, *]
   simp [Function.comp_def, List.take_of_length_le, e2]
  simp only [go_sem, *]
  by_cases hl0 : l.length = 0
  ·rw [if_pos (.inl hl0)] at hR
   have hl1 : ((l.length : Int) == 0) = true := by simpa using hl0
   clear hneg hlr
   have hR2 := hR
   unfold AskR at hR2
   clear hR
   subst hR2
   repeat' (first | (with_reducible (show runOps ..); first | (refine Qr rfl ?_; try intro K' hK; try simp only [go_sem, *]) | (refine Qi rfl rfl rfl rfl (fun hb K' hK => ?_) (fun hb => ?_) <;> (have hc := hb; try simp only [go_sem] at hc; simp only [go_sem, *]))) | (with_reducible (show Hold ..); first | refine Qh rfl ?_ | refine s_draw rfl Tryz.mixed (by kernel_rfl) ?_ | (refine s_cond rfl ⟨_, rfl, fun hb => ?_, fun hb => ?_⟩ <;> (have hc := hb; try simp only [go_sem] at hc)) | refine s_ret rfl ?_) | ((with_reducible refine Qb ?_ ?_); focus kernel_rfl) | ((with_reducible refine And.intro ?_ ?_); focus omega) | (refine contA_of hK ?_; clear hK K'; simp only [go_sem, *]) | (simp only [thenA, inBlockA, go_sem, *]))
   refine ⟨[.agg [iV 0, iV 0, iV 0], iV 0, iV 11], [], [], ⟨(by simp only [resOne, go_sem]), rfl, rfl, trivial⟩, ?_⟩; simp only [go_sem, *]
  have hl1 : ((l.length : Int) == 0) = false := by simpa using hl0
  by_cases ha0 : a < 0
  ·rw [if_pos (.inr (.inl ha0))] at hR
   clear hneg hlr
   have hR2 := hR
   unfold AskR at hR2
   clear hR
   subst hR2
   repeat' (first | (with_reducible (show runOps ..); first | (refine Qr rfl ?_; try intro K' hK; try simp only [go_sem, *]) | (refine Qi rfl rfl rfl rfl (fun hb K' hK => ?_) (fun hb => ?_) <;> (have hc := hb; try simp only [go_sem] at hc; simp only [go_sem, *]))) | (with_reducible (show Hold ..); first | refine Qh rfl ?_ | refine s_draw rfl Tryz.mixed (by kernel_rfl) ?_ | (refine s_cond rfl ⟨_, rfl, fun hb => ?_, fun hb => ?_⟩ <;> (have hc := hb; try simp only [go_sem] at hc)) | refine s_ret rfl ?_) | ((with_reducible refine Qb ?_ ?_); focus kernel_rfl) | ((with_reducible refine And.intro ?_ ?_); focus omega) | (refine contA_of hK ?_; clear hK K'; simp only [go_sem, *]) | (simp only [thenA, inBlockA, go_sem, *]))
   all_goals first | contradiction | omega | skip
   refine ⟨[.agg [iV 0, iV 0, iV 0], iV 0, iV 11], [], [], ⟨(by simp only [resOne, go_sem]), rfl, rfl, trivial⟩, ?_⟩; simp only [go_sem, *]
  ·obtain ⟨k, rfl⟩ : ∃ k : Nat, a = (k : Int) := ⟨a.toNat, by omega⟩
   have hk : k < (housesOf s.first).length := by
    have : 0 < (housesOf s.first).length := by
     rcases Nat.eq_zero_or_pos (housesOf s.first).length with h | h
     ·exact absurd (hneg h) ha0
     ·exact h
    have := hlr this
    omega
   have hgk : ((housesOf s.first).map (groupOf l)).getD (k : Int).toNat 0 = groupOf l ((housesOf s.first).getD k default) := by
    simp [List.getD, hk]
   rw [hgk] at hR
   clear hneg hlr hgk
   have hki : k < i := by omega
   by_cases hg : groupOf l ((housesOf s.first).getD k default) = l.length
   ·rw [if_pos (.inr (.inr hg))] at hR
    have hgi : (((groupOf l ((housesOf s.first).getD k default) : Nat) : Int) == (l.length : Int)) = true := by rw [beq_iff_eq]; omega
    clear hg
    have hR2 := hR
    unfold AskR at hR2
    clear hR
    subst hR2
    repeat' (first | (with_reducible (show runOps ..); first | (refine Qr rfl ?_; try intro K' hK; try simp only [go_sem, *]) | (refine Qi rfl rfl rfl rfl (fun hb K' hK => ?_) (fun hb => ?_) <;> (have hc := hb; try simp only [go_sem] at hc; simp only [go_sem, *]))) | (with_reducible (show Hold ..); first | refine Qh rfl ?_ | refine s_draw rfl Tryz.mixed (by kernel_rfl) ?_ | (refine s_cond rfl ⟨_, rfl, fun hb => ?_, fun hb => ?_⟩ <;> (have hc := hb; try simp only [go_sem] at hc)) | refine s_ret rfl ?_) | ((with_reducible refine Qb ?_ ?_); focus kernel_rfl) | ((with_reducible refine And.intro ?_ ?_); focus omega) | (refine contA_of hK ?_; clear hK K'; simp only [go_sem, *]) | (simp only [thenA, inBlockA, go_sem, *]))
    all_goals first | contradiction | omega | skip
    refine ⟨[.agg [iV 0, iV 0, iV 0], iV 0, iV 11], [], [], ⟨(by simp only [resOne, go_sem]), rfl, rfl, trivial⟩, ?_⟩; simp only [go_sem, *]
   ·rw [if_neg (by rintro (h | h | h) <;> omega)] at hR
    have hgi : (((groupOf l ((housesOf s.first).getD k default) : Nat) : Int) == (l.length : Int)) = false := by rw [beq_eq_false_iff_ne]; omega
    clear hg
    have hR2 := hR
    unfold AskR at hR2
    clear hR
    simp only [Int.toNat_natCast] at hR2
    subst hR2
    repeat' (first | (with_reducible (show runOps ..); first | (refine Qr rfl ?_; try intro K' hK; try simp only [go_sem, *]) | (refine Qi rfl rfl rfl rfl (fun hb K' hK => ?_) (fun hb => ?_) <;> (have hc := hb; try simp only [go_sem] at hc; simp only [go_sem, *]))) | (with_reducible (show Hold ..); first | refine Qh rfl ?_ | refine s_draw rfl Tryz.mixed (by kernel_rfl) ?_ | (refine s_cond rfl ⟨_, rfl, fun hb => ?_, fun hb => ?_⟩ <;> (have hc := hb; try simp only [go_sem] at hc)) | refine s_ret rfl ?_) | ((with_reducible refine Qb ?_ ?_); focus kernel_rfl) | ((with_reducible refine And.intro ?_ ?_); focus omega) | (refine contA_of hK ?_; clear hK K'; simp only [go_sem, *]) | (simp only [thenA, inBlockA, go_sem, *]))
    all_goals first | contradiction | omega | skip
    refine ⟨[((housesOf s.first).getD k default).enc, iV (groupOf l ((housesOf s.first).getD k default) : Nat), iV 0], [], [], ⟨(by simp only [resOne, go_sem]), rfl, rfl, trivial⟩, ?_⟩; simp only [go_sem, *]
end Go.Abs

namespace Go.Abs
open Go Go.Proofs
set_option maxRecDepth 10000
set_option maxHeartbeats 4000000
theorem x_guessErr : guessErr townX planY = 0 := by kernel_rfl
theorem sp_walking : Spec Tryz.prog 20 [] [] (bV true) [] := by
 have sAfter := sp_After townX joinX (by decide)
 rw [if_pos x_err, x_after, x_err] at sAfter
 have sTruths := sp_Truths_ok taleX x_story
 rw [x_ways] at sTruths
 have sWhere := sp_Where_ok taleX (atX 0 1) x_whereErr (by rw [x_whereL]; decide) (by rw [x_whereL]; decide)
 rw [x_where] at sWhere
 have sAsk := sp_Ask_ok taleX x_story (.tup [(atX 0 1).enc, iV (1 : Nat), iV 0]) (by rw [x_ask]; rfl)
 have sGuess := sp_Guess townX planY (by decide) (by decide)
 rw [if_pos x_guessErr, x_guess, x_guessErr] at sGuess
 have sRow1 := sp_row [1, 2, 4, 5, 7, 8] (by decide)
 have sRow2 := sp_row [1, 2, 3, 4, 5, 7, 8] (by decide)
 have sPlan1 := sp_plan (rowX [1, 2, 4, 5, 7, 8]) [] []
 have sPlan2 := sp_plan (rowX [1, 2, 3, 4, 5, 7, 8]) [] []
 have sEq1 := sp_EqPlans planX planX (by decide) (by decide)
 have sEq2 := sp_EqLists [[0, 0], [1, 0]] [[0, 0], [1, 0]] (by decide) (by decide)
 have sEq3 := sp_EqPlaces [atX 0 2, atX 0 5] [atX 0 2, atX 0 5] (by decide)
 have sEq4 := sp_EqChanges [joinX, fellX] [joinX, fellX] (by decide)
 have sJoin := sp_join 1 0
 have sAt1 := sp_lat 0 1
 have sAt2 := sp_lat 0 2
 have sAt5 := sp_lat 0 5
 have sOne := sp_one 6 0 3
 simp only [planX, planY, joinX, fellX, zeroPlate, atX, decide_true, optL, Option.getD_some] at *
 refine spec_body Tryz.func20 rfl (fun E hE => ?_); simp only [go_sem, Tryz.ntmps20]
 repeat' (first | (with_reducible (show runOps ..); first | (refine Qr rfl ?_; try intro K' hK; try simp only [go_sem, *]) | (refine Qi rfl rfl rfl rfl (fun hb K' hK => ?_) (fun hb => ?_) <;> (have hc := hb; try simp only [go_sem] at hc; simp only [go_sem, *]))) | (with_reducible (show Hold ..); first | refine Qh rfl ?_ | (refine s_cond rfl ⟨_, rfl, fun hb => ?_, fun hb => ?_⟩ <;> (have hc := hb; try simp only [go_sem] at hc)) | refine s_ret rfl ?_) | (with_reducible (show callA ..); first | ((first | refine call_s (sp_town) ?_ ?_ | refine call_s (sJoin) ?_ ?_ | refine call_s (sAfter) ?_ ?_ | refine call_s (sTruths) ?_ ?_ | refine call_s (sAt1) ?_ ?_ | refine call_s (sWhere) ?_ ?_ | refine call_s (sAsk) ?_ ?_); (focus (simp only [go_sem, *]; done)); simp only [go_sem, *]) | (refine call_fz (sp_tale) ?_ rfl ?_ ?_ ?_ ?_; (focus (simp only [go_sem, *]; done)); (focus (simp only [go_sem, *]; done)); (focus (first | (simp; done) | (simp [go_sem]; done))); (focus (first | (simp; done) | (simp [go_sem]; done))); simp only [go_sem, deads, *]) | (refine call_fz (sRow1) ?_ rfl ?_ ?_ ?_ ?_; (focus (simp only [go_sem, *]; done)); (focus (simp only [go_sem, *]; done)); (focus (first | (simp; done) | (simp [go_sem]; done))); (focus (first | (simp; done) | (simp [go_sem]; done))); simp only [go_sem, deads, *]) | (refine call_fz (sPlan1) ?_ rfl ?_ ?_ ?_ ?_; (focus (simp only [go_sem, *]; done)); (focus (simp only [go_sem, *]; done)); (focus (first | (simp; done) | (simp [go_sem]; done))); (focus (first | (simp; done) | (simp [go_sem]; done))); simp only [go_sem, deads, *]) | (refine call_fz (sGuess) ?_ rfl ?_ ?_ ?_ ?_; (focus (simp only [go_sem, *]; done)); (focus (simp only [go_sem, *]; done)); (focus (first | (simp; done) | (simp [go_sem]; done))); (focus (first | (simp; done) | (simp [go_sem]; done))); simp only [go_sem, deads, *])) | ((with_reducible refine Qb ?_ ?_); focus kernel_rfl) | ((with_reducible refine And.intro ?_ ?_); focus omega) | (refine contA_of hK ?_; clear hK K'; simp only [go_sem, *]) | (simp only [thenA, inBlockA, go_sem, *]))
 all_goals first | contradiction | skip
 repeat' (first | (with_reducible (show runOps ..); first | (refine Qr rfl ?_; try intro K' hK; try simp only [go_sem, *]) | (refine Qi rfl rfl rfl rfl (fun hb K' hK => ?_) (fun hb => ?_) <;> (have hc := hb; try simp only [go_sem] at hc; simp only [go_sem, *]))) | (with_reducible (show Hold ..); first | refine Qh rfl ?_ | refine s_draw rfl Tryz.mixed (by kernel_rfl) ?_ | (refine s_cond rfl ⟨_, rfl, fun hb => ?_, fun hb => ?_⟩ <;> (have hc := hb; try simp only [go_sem] at hc)) | refine s_ret rfl ?_) | (with_reducible (show callA ..); first | ((first | refine call_s (sJoin) ?_ ?_ | refine call_s (sOne) ?_ ?_ | refine call_s (sAt1) ?_ ?_ | refine call_s (sAt2) ?_ ?_ | refine call_s (sAt5) ?_ ?_); (focus (simp only [go_sem, *]; done)); simp only [go_sem, *]) | (refine call_fz (sRow2) ?_ rfl ?_ ?_ ?_ ?_; (focus (simp only [go_sem, *]; done)); (focus (simp only [go_sem, *]; done)); (focus (first | (simp; done) | (simp [go_sem]; done))); (focus (first | (simp; done) | (simp [go_sem]; done))); simp only [go_sem, deads, *]) | (refine call_fz (sPlan2) ?_ rfl ?_ ?_ ?_ ?_; (focus (simp only [go_sem, *]; done)); (focus (simp only [go_sem, *]; done)); (focus (first | (simp; done) | (simp [go_sem]; done))); (focus (first | (simp; done) | (simp [go_sem]; done))); simp only [go_sem, deads, *]) | (refine call_fz (sEq1) ?_ rfl ?_ ?_ ?_ ?_; (focus (simp only [go_sem, *]; done)); (focus (simp only [go_sem, *]; done)); (focus (first | (simp; done) | (simp [go_sem]; done))); (focus (first | (simp; done) | (simp [go_sem]; done))); simp only [go_sem, deads, *]) | (refine call_fz (sEq2) ?_ rfl ?_ ?_ ?_ ?_; (focus (simp only [go_sem, *]; done)); (focus (simp only [go_sem, *]; done)); (focus (first | (simp; done) | (simp [go_sem]; done))); (focus (first | (simp; done) | (simp [go_sem]; done))); simp only [go_sem, deads, *]) | (refine call_fz (sEq3) ?_ rfl ?_ ?_ ?_ ?_; (focus (simp only [go_sem, *]; done)); (focus (simp only [go_sem, *]; done)); (focus (first | (simp; done) | (simp [go_sem]; done))); (focus (first | (simp; done) | (simp [go_sem]; done))); simp only [go_sem, deads, *]) | (refine call_fz (sEq4) ?_ rfl ?_ ?_ ?_ ?_; (focus (simp only [go_sem, *]; done)); (focus (simp only [go_sem, *]; done)); (focus (first | (simp; done) | (simp [go_sem]; done))); (focus (first | (simp; done) | (simp [go_sem]; done))); simp only [go_sem, deads, *])) | ((with_reducible refine Qb ?_ ?_); focus kernel_rfl) | ((with_reducible refine And.intro ?_ ?_); focus omega) | (refine contA_of hK ?_; clear hK K'; simp only [go_sem, *]) | (simp only [thenA, inBlockA, go_sem, *]))
 (refine ⟨[_], [], [], ⟨rfl, trivial⟩, ?_⟩; simp only [go_sem, *])
end Go.Abs

namespace Go.Abs
open Go Go.Proofs
set_option maxRecDepth 10000
set_option maxHeartbeats 4000000
def wideL (p : Plan) : Bool := p.any fun l => decide (20 < l.length)
def wideB (p : Plan) : Bool := decide (20 < p.length) || wideL p
theorem wideL_drop {p : Plan} {i : Nat} (h : i < p.length) : wideL (p.drop i) = (decide (20 < (p.getD i default).length) || wideL (p.drop (i + 1))) := by
 unfold wideL; rw [drop_cons h, List.any_cons]
theorem sp_wide (p : Plan) (h1 : p.length ≤ 4294967296) (W : Bool) (hW : wideB p = W) : Spec Tryz.prog 19 [encPlan p] [] (bV W) [] := by
 unfold wideB at hW
 by_cases q : 20 < p.length
 ·have q2 : (p.length : Int) > 20 := by omega
  have e : decide (20 < p.length) = true := by simpa using q
  rw [e, Bool.true_or] at hW
  subst hW
  clear e q
  refine spec_body Tryz.func19 rfl (fun E hE => ?_); simp only [go_sem, Tryz.ntmps19]
  repeat' (first | (with_reducible (show runOps ..); first | (refine Qr rfl ?_; try intro K' hK; try simp only [go_sem, *])) | (with_reducible (show Hold ..); first | refine Qh rfl ?_ | (refine s_cond rfl ⟨_, rfl, fun hb => ?_, fun hb => ?_⟩ <;> (have hc := hb; try simp only [go_sem] at hc)) | refine s_ret rfl ?_) | ((with_reducible refine Qb ?_ ?_); focus kernel_rfl) | ((with_reducible refine And.intro ?_ ?_); focus omega) | (refine contA_of hK ?_; clear hK K'; simp only [go_sem, *]) | (simp only [thenA, inBlockA, go_sem, *]))
  all_goals first | contradiction | omega | skip
  (refine ⟨[_], [], [], ⟨rfl, trivial⟩, ?_⟩; simp only [go_sem, *])
 ·have q2 : ¬ (p.length : Int) > 20 := by omega
  have e : decide (20 < p.length) = false := by simpa using q
  rw [e, Bool.false_or] at hW
  have hW0 : wideL (p.drop 0) = W := hW
  clear e hW
  refine spec_body Tryz.func19 rfl (fun E hE => ?_); simp only [go_sem, Tryz.ntmps19]
  repeat' (first | (with_reducible (show runOps ..); first | (refine Qr rfl ?_; try intro K' hK; try simp only [go_sem, *])) | (with_reducible (show Hold ..); first | refine Qh rfl ?_ | (refine s_cond rfl ⟨_, rfl, fun hb => ?_, fun hb => ?_⟩ <;> (have hc := hb; try simp only [go_sem] at hc)) | refine s_ret rfl ?_) | ((with_reducible refine Qb ?_ ?_); focus kernel_rfl) | ((with_reducible refine And.intro ?_ ?_); focus omega) | (refine contA_of hK ?_; clear hK K'; simp only [go_sem, *]) | (simp only [thenA, inBlockA, go_sem, *]))
  all_goals first | contradiction | omega | skip
  refine s_loop rfl (fun zn zN zenv zAs => ∃ (i : Nat), zn = (p.length) - i ∧ i ≤ (p.length) ∧ (wideL (p.drop i) = W) ∧ zN = 22 ∧ zenv = [(3, iV i), (1, .ptr 0 0)] ∧ zAs = [pBox p]) (p.length) ⟨[some 0], [], _, _, _, (by (simp only [Weak, go_sem, List.map_append, List.map_set, *] <;> (try simp (disch := omega) only [wrap_succ]) <;> (try simp) <;> (try omega))), 0, (by simp), (by simp), (by exact hW0), rfl, rfl, rfl⟩ ?_; rintro _ _ _ _ ⟨i, rfl, hi, hP, rfl, rfl, rfl⟩
  by_cases hi2 : i < p.length
  ·rw [wideL_drop hi2] at hP
   by_cases r : 20 < (p.getD i default).length
   ·have r2 : ((p.getD i default).length : Int) > 20 := by omega
    have e : decide (20 < (p.getD i default).length) = true := by simpa using r
    rw [e, Bool.true_or] at hP
    subst hP
    clear e r
    repeat' (first | (with_reducible (show runOps ..); first | (refine Qr rfl ?_; try intro K' hK; try simp only [go_sem, *])) | (with_reducible (show Hold ..); first | refine Qh rfl ?_ | (refine s_cond rfl ⟨_, rfl, fun hb => ?_, fun hb => ?_⟩ <;> (have hc := hb; try simp only [go_sem] at hc)) | refine s_ret rfl ?_) | ((with_reducible refine Qb ?_ ?_); focus kernel_rfl) | ((with_reducible refine And.intro ?_ ?_); focus omega) | (refine contA_of hK ?_; clear hK K'; simp only [go_sem, *]) | (simp only [thenA, inBlockA, go_sem, *]))
    all_goals first | contradiction | omega | skip
    (refine ⟨[_], [], [], ⟨rfl, trivial⟩, ?_⟩; simp only [go_sem, *])
   ·have r2 : ¬ ((p.getD i default).length : Int) > 20 := by omega
    have e : decide (20 < (p.getD i default).length) = false := by simpa using r
    rw [e, Bool.false_or] at hP
    clear e r
    repeat' (first | (with_reducible (show runOps ..); first | (refine Qr rfl ?_; try intro K' hK; try simp only [go_sem, *])) | (with_reducible (show Hold ..); first | refine Qh rfl ?_ | (refine s_cond rfl ⟨_, rfl, fun hb => ?_, fun hb => ?_⟩ <;> (have hc := hb; try simp only [go_sem] at hc)) | refine s_ret rfl ?_) | ((with_reducible refine Qb ?_ ?_); focus kernel_rfl) | ((with_reducible refine And.intro ?_ ?_); focus omega) | (refine contA_of hK ?_; clear hK K'; simp only [go_sem, *]) | (simp only [thenA, inBlockA, go_sem, *]))
    all_goals first | contradiction | omega | skip
    refine ⟨_, (by omega), [some 0], [], _, _, _, (by (simp only [Weak, go_sem, List.map_append, List.map_set, *] <;> (try simp (disch := omega) only [wrap_succ]) <;> (try simp) <;> (try omega))), i + 1, rfl, (by omega), (by exact hP), rfl, rfl, rfl⟩
  ·rw [drop_end (by omega)] at hP
   have hP2 : false = W := hP
   subst hP2
   repeat' (first | (with_reducible (show runOps ..); first | (refine Qr rfl ?_; try intro K' hK; try simp only [go_sem, *])) | (with_reducible (show Hold ..); first | refine Qh rfl ?_ | (refine s_cond rfl ⟨_, rfl, fun hb => ?_, fun hb => ?_⟩ <;> (have hc := hb; try simp only [go_sem] at hc)) | refine s_ret rfl ?_) | ((with_reducible refine Qb ?_ ?_); focus kernel_rfl) | ((with_reducible refine And.intro ?_ ?_); focus omega) | (refine contA_of hK ?_; clear hK K'; simp only [go_sem, *]) | (simp only [thenA, inBlockA, go_sem, *]))
   (refine ⟨[_], [], [], ⟨rfl, trivial⟩, ?_⟩; simp only [go_sem, *])
theorem wide_valid {p : Plan} (v : Valid p) : wideB p = false := by
 unfold wideB wideL
 rw [Bool.or_eq_false_iff]
 refine ⟨by simp; have := v.len; omega, ?_⟩
 rw [List.any_eq_false]
 intro l hl
 have := (v.rows l hl).len
 simp; omega
end Go.Abs

namespace Go.Abs
open Go Go.Proofs
set_option maxRecDepth 10000
set_option maxHeartbeats 4000000
attribute [go_sem] diceBox Nat.le_refl Nat.sub_zero Int.reduceGT Nat.reduceGT Int.reduceGE
@[go_sem ↓] theorem intA_xor (a b : Int) (K : Cont) : intA .xor .u64 a b K = K (uV (xor64 a b)) [] [] := rfl
@[go_sem ↓] theorem shiftA_shl (a b : Int) (K : Cont) : shiftA .shl .u64 a b K = (0 ≤ b ∧ K (uV (shl64 a b.toNat)) [] []) := rfl
@[go_sem ↓] theorem shiftA_shr (a b : Int) (K : Cont) : shiftA .shr .u64 a b K = (0 ≤ b ∧ K (uV (shr64 a b.toNat)) [] []) := rfl
@[go_sem] theorem fold_mix1 (s : Int) : xor64 s (shl64 s 13) = mix1 s := rfl
@[go_sem] theorem fold_mix2 (s : Int) : xor64 s (shr64 s 7) = mix2 s := rfl
@[go_sem] theorem fold_mix3 (s : Int) : xor64 s (shl64 s 17) = mix3 s := rfl
@[go_sem] theorem fold_mixed (s : Int) : mix3 (mix2 (mix1 s)) = mixed3 s := rfl
@[go_sem] theorem fold_rawM (n : Int) : IntKind.u64.wrap (xor64 n (shr64 n 30) * 10723151780598845931) = rawM n := rfl
theorem sp_raw (d : Dice) (h : d.list.length ≤ 4294967296) : Spec Tryz.prog 95 [.ptr 0 0] [diceBox d] (uV (rawN d)) [diceBox (rawD d)] := by
 have e2 : (rawD d).list = d.list := rfl
 have e4 : (rawD d).seed = rawS d := rfl
 have e6 : rawN d = xor64 (rawM (rawS d)) (shr64 (rawM (rawS d)) 31) := rfl
 by_cases q : d.at_ < d.list.length
 ·have q2 : ((d.at_ : Int) < (d.list.length : Int)) := by omega
  have e1 : rawS d = IntKind.u64.wrap (mixed3 d.seed + IntKind.u64.wrap (IntKind.u64.wrap (d.list.getD d.at_ default) * 13787848793156543929)) := by unfold rawS; rw [if_pos q]
  have e3 : (rawD d).at_ = d.at_ + 1 := by unfold rawD; simp only; rw [if_pos q]
  have e5 : IntKind.i64.wrap ((d.at_ : Int) + 1) = ((d.at_ + 1 : Nat) : Int) := wrap_succ (by omega)
  generalize rawD d = d' at *
  refine spec_body Tryz.func95 rfl (fun E hE => ?_); simp only [go_sem, Tryz.ntmps95]
  repeat' (first | (with_reducible (show runOps ..); first | (refine Qr rfl ?_; try intro K' hK; try simp only [go_sem, *])) | (with_reducible (show Hold ..); first | refine Qh rfl ?_ | refine s_draw rfl Tryz.mixed (by kernel_rfl) ?_ | (refine s_cond rfl ⟨_, rfl, fun hb => ?_, fun hb => ?_⟩ <;> (have hc := hb; try simp only [go_sem] at hc)) | refine s_ret rfl ?_) | ((with_reducible refine Qb ?_ ?_); focus kernel_rfl) | ((with_reducible refine And.intro ?_ ?_); focus omega) | (refine contA_of hK ?_; clear hK K'; simp only [go_sem, *]) | (simp only [thenA, inBlockA, go_sem, *]))
  all_goals first | contradiction | omega | skip
  refine ⟨[_], [some 0], [], ⟨rfl, trivial⟩, ?_⟩
  simp only [go_sem, *]
 ·have q2 : ¬ ((d.at_ : Int) < (d.list.length : Int)) := by omega
  have e1 : rawS d = mixed3 d.seed := by unfold rawS; rw [if_neg q]
  have e3 : (rawD d).at_ = d.at_ := by unfold rawD; simp only; rw [if_neg q]
  generalize rawD d = d' at *
  refine spec_body Tryz.func95 rfl (fun E hE => ?_); simp only [go_sem, Tryz.ntmps95]
  repeat' (first | (with_reducible (show runOps ..); first | (refine Qr rfl ?_; try intro K' hK; try simp only [go_sem, *])) | (with_reducible (show Hold ..); first | refine Qh rfl ?_ | refine s_draw rfl Tryz.mixed (by kernel_rfl) ?_ | (refine s_cond rfl ⟨_, rfl, fun hb => ?_, fun hb => ?_⟩ <;> (have hc := hb; try simp only [go_sem] at hc)) | refine s_ret rfl ?_) | ((with_reducible refine Qb ?_ ?_); focus kernel_rfl) | ((with_reducible refine And.intro ?_ ?_); focus omega) | (refine contA_of hK ?_; clear hK K'; simp only [go_sem, *]) | (simp only [thenA, inBlockA, go_sem, *]))
  all_goals first | contradiction | omega | skip
  refine ⟨[_], [some 0], [], ⟨rfl, trivial⟩, ?_⟩
  simp only [go_sem, *]
theorem toD_list (n : Int) (d : Dice) : (toD n d).list = d.list := by unfold toD; split <;> rfl
theorem sp_To (d : Dice) (n : Int) (h : d.list.length ≤ 4294967296) (hn : n ≤ 4294967296) : Spec Tryz.prog 30 [.ptr 0 0, iV n] [diceBox d] (iV (toN n d)) [diceBox (toD n d)] := by
 by_cases q : n < 1
 ·have e1 : toN n d = 0 := by unfold toN; rw [if_pos q]
  have e2 : toD n d = d := by unfold toD; rw [if_pos q]
  refine spec_body Tryz.func30 rfl (fun E hE => ?_); simp only [go_sem, Tryz.ntmps30]
  repeat' (first | (with_reducible (show runOps ..); first | (refine Qr rfl ?_; try intro K' hK; try simp only [go_sem, *])) | (with_reducible (show Hold ..); first | refine Qh rfl ?_ | (refine s_cond rfl ⟨_, rfl, fun hb => ?_, fun hb => ?_⟩ <;> (have hc := hb; try simp only [go_sem] at hc)) | refine s_ret rfl ?_) | ((with_reducible refine Qb ?_ ?_); focus kernel_rfl) | ((with_reducible refine And.intro ?_ ?_); focus omega) | (refine contA_of hK ?_; clear hK K'; simp only [go_sem, *]) | (simp only [thenA, inBlockA, go_sem, *]))
  all_goals first | contradiction | omega | skip
  refine ⟨[_], [some 0], [], ⟨rfl, trivial⟩, ?_⟩
  simp only [go_sem, *]
 ·have e1 : toN n d = (shr64 (rawN d) 16).tmod (n + 1) := by unfold toN; rw [if_neg q]
  have e2 : toD n d = rawD d := by unfold toD; rw [if_neg q]
  have hr := toN_range n d
  rw [e1] at hr
  have e3 : IntKind.i64.wrap (n + 1) = n + 1 := wrap_i64 (by omega) (by omega)
  have e4 : IntKind.u64.wrap (n + 1) = n + 1 := by rw [IntKind.wrap_u64]; omega
  have e5 : IntKind.i64.wrap ((shr64 (rawN d) 16).tmod (n + 1)) = (shr64 (rawN d) 16).tmod (n + 1) := wrap_i64 (by omega) (by omega)
  have e6 : ¬ n + 1 = 0 := by omega
  have sr := sp_raw d h
  generalize rawN d = r at *
  generalize rawD d = d' at *
  clear hr
  refine spec_body Tryz.func30 rfl (fun E hE => ?_); simp only [go_sem, Tryz.ntmps30]
  repeat' (first | (with_reducible (show runOps ..); first | (refine Qr rfl ?_; try intro K' hK; try simp only [go_sem, *])) | (with_reducible (show Hold ..); first | refine Qh rfl ?_ | (refine s_cond rfl ⟨_, rfl, fun hb => ?_, fun hb => ?_⟩ <;> (have hc := hb; try simp only [go_sem] at hc)) | refine s_ret rfl ?_) | (with_reducible (show callA ..); first | (refine call_of [0] [] (sr) (by simp) ?_ ?_ (by simp) (.inl rfl) ?_ ?_ ?_; (focus (simp only [go_sem, *]; done)); (focus (simp only [go_sem, *]; done)); (focus (first | (simp; done) | (simp [go_sem]; done))); (focus (first | (simp; done) | (simp [go_sem]; done))); simp only [go_sem, *])) | ((with_reducible refine Qb ?_ ?_); focus kernel_rfl) | ((with_reducible refine And.intro ?_ ?_); focus omega) | (refine contA_of hK ?_; clear hK K'; simp only [go_sem, *]) | (simp only [thenA, inBlockA, go_sem, *]))
  all_goals first | contradiction | omega | skip
  refine ⟨[_], [some 0], [], ⟨rfl, trivial⟩, ?_⟩
  simp only [go_sem, *]
theorem sp_From (d : Dice) (lo hi : Int) (h : d.list.length ≤ 4294967296) (hl : 0 ≤ lo ∧ lo ≤ hi) (hh : hi ≤ 4294967296) : Spec Tryz.prog 83 [.ptr 0 0, iV lo, iV hi] [diceBox d] (iV (fromN lo hi d)) [diceBox (fromD lo hi d)] := by
 have st := sp_To d (hi - lo) h (by omega)
 have hf := fromN_le hl.2 d
 have e1 : IntKind.i64.wrap (hi - lo) = hi - lo := wrap_i64 (by omega) (by omega)
 have e2 : IntKind.i64.wrap (lo + toN (hi - lo) d) = fromN lo hi d := by
  have : lo + toN (hi - lo) d = fromN lo hi d := rfl
  rw [this]; exact wrap_i64 (by omega) (by omega)
 have e3 : fromD lo hi d = toD (hi - lo) d := rfl
 rw [e3]
 generalize fromN lo hi d = r at *
 clear e3 hf hl
 refine spec_body Tryz.func83 rfl (fun E hE => ?_); simp only [go_sem, Tryz.ntmps83]
 repeat' (first | (with_reducible (show runOps ..); first | (refine Qr rfl ?_; try intro K' hK; try simp only [go_sem, *])) | (with_reducible (show Hold ..); first | refine Qh rfl ?_ | (refine s_cond rfl ⟨_, rfl, fun hb => ?_, fun hb => ?_⟩ <;> (have hc := hb; try simp only [go_sem] at hc)) | refine s_ret rfl ?_) | (with_reducible (show callA ..); first | (refine call_of [0] [] (st) (by simp) ?_ ?_ (by simp) (.inl rfl) ?_ ?_ ?_; (focus (simp only [go_sem, *]; done)); (focus (simp only [go_sem, *]; done)); (focus (first | (simp; done) | (simp [go_sem]; done))); (focus (first | (simp; done) | (simp [go_sem]; done))); simp only [go_sem, *])) | ((with_reducible refine Qb ?_ ?_); focus kernel_rfl) | ((with_reducible refine And.intro ?_ ?_); focus omega) | (refine contA_of hK ?_; clear hK K'; simp only [go_sem, *]) | (simp only [thenA, inBlockA, go_sem, *]))
 refine ⟨[_], [some 0], [], ⟨rfl, trivial⟩, ?_⟩
 simp only [go_sem, *]
theorem sp_Once (d : Dice) (k : Int) (h : d.list.length ≤ 4294967296) (hk : 0 ≤ k ∧ k ≤ 4294967296) : Spec Tryz.prog 84 [.ptr 0 0, iV k] [diceBox d] (bV (onceT k d)) [diceBox (onceR k d)] := by
 have st := sp_To d (k - 1) h (by omega)
 have e1 : IntKind.i64.wrap (k - 1) = k - 1 := wrap_i64 (by omega) (by omega)
 have e2 : onceT k d = (toN (k - 1) d == 0) := rfl
 have e3 : onceR k d = toD (k - 1) d := rfl
 rw [e3, e2]
 clear e2 e3 hk
 refine spec_body Tryz.func84 rfl (fun E hE => ?_); simp only [go_sem, Tryz.ntmps84]
 repeat' (first | (with_reducible (show runOps ..); first | (refine Qr rfl ?_; try intro K' hK; try simp only [go_sem, *])) | (with_reducible (show Hold ..); first | refine Qh rfl ?_ | (refine s_cond rfl ⟨_, rfl, fun hb => ?_, fun hb => ?_⟩ <;> (have hc := hb; try simp only [go_sem] at hc)) | refine s_ret rfl ?_) | (with_reducible (show callA ..); first | (refine call_of [0] [] (st) (by simp) ?_ ?_ (by simp) (.inl rfl) ?_ ?_ ?_; (focus (simp only [go_sem, *]; done)); (focus (simp only [go_sem, *]; done)); (focus (first | (simp; done) | (simp [go_sem]; done))); (focus (first | (simp; done) | (simp [go_sem]; done))); simp only [go_sem, *])) | ((with_reducible refine Qb ?_ ?_); focus kernel_rfl) | ((with_reducible refine And.intro ?_ ?_); focus omega) | (refine contA_of hK ?_; clear hK K'; simp only [go_sem, *]) | (simp only [thenA, inBlockA, go_sem, *]))
 refine ⟨[_], [some 0], [], ⟨rfl, trivial⟩, ?_⟩
 simp only [go_sem, *]
def newDice (l : List Int) : Dice := ⟨l, 0, 11400714819323198485⟩
theorem sp_NewDice (l : List Int) : Spec Tryz.prog 21 [encInts l] [] (.ptr 0 0) [diceBox (newDice l)] := by
 refine spec_body Tryz.func21 rfl (fun E hE => ?_); simp only [go_sem, Tryz.ntmps21]
 repeat' (first | (with_reducible (show runOps ..); first | (refine Qr rfl ?_; try intro K' hK; try simp only [go_sem, *])) | (with_reducible (show Hold ..); first | refine Qh rfl ?_ | (refine s_cond rfl ⟨_, rfl, fun hb => ?_, fun hb => ?_⟩ <;> (have hc := hb; try simp only [go_sem] at hc)) | refine s_ret rfl ?_) | ((with_reducible refine Qb ?_ ?_); focus kernel_rfl) | ((with_reducible refine And.intro ?_ ?_); focus omega) | (refine contA_of hK ?_; clear hK K'; simp only [go_sem, *]) | (simp only [thenA, inBlockA, go_sem, *]))
 refine ⟨[_], [some 0], [], ⟨rfl, trivial⟩, ?_⟩
 simp only [go_sem, newDice, *]
end Go.Abs

namespace Go.Abs
open Go Go.Proofs
set_option maxRecDepth 10000
set_option maxHeartbeats 4000000
theorem fromD_list (a b : Int) (d : Dice) : (fromD a b d).list = d.list := toD_list _ _
theorem onceR_list (k : Int) (d : Dice) : (onceR k d).list = d.list := toD_list _ _
theorem plateN_list (d : Dice) : (plateN d).2.list = d.list := by
 unfold plateN plateK
 split
 ·simp only [fromD_list, onceR_list]
 ·simp only [fromD_list, onceR_list]
theorem platesN_list : ∀ (n : Nat) (d : Dice) (out : List Plate), (platesN n d out).2.list = d.list
 | 0, d, out => rfl
 | n + 1, d, out => by rw [platesN, platesN_list n]; exact plateN_list d
theorem platesOf_list (d : Dice) (m : Int) : (platesOf d m).2.list = d.list := by unfold platesOf; rw [platesN_list, toD_list]
def PlP (most : Int) (d : Dice) (k : Nat) (dd : Dice) (acc : List Plate) (R : List Plate × Dice) : Prop := platesN k dd acc = R ∧ dd.list.length ≤ 4294967296 ∧ acc.length + k ≤ 8
theorem PlP.next {most : Int} {d dd : Dice} {k : Nat} {acc : List Plate} {R : List Plate × Dice} (h : PlP most d (k + 1) dd acc R) : PlP most d k (plateN dd).2 (insPl (plateN dd).1 acc) R := by
 obtain ⟨h1, h2, h3⟩ := h
 have := insPl_len (x := (plateN dd).1) (l := acc)
 exact ⟨h1, by rw [plateN_list]; exact h2, by omega⟩
def AtP (x : Plate) (acc : List Plate) (j : Nat) : Prop := ∀ m, m < j → (acc.getD m default).lt x = true
theorem AtP.next {x : Plate} {acc : List Plate} {j : Nat} (h : AtP x acc j) (hx : (acc.getD j default).lt x = true) : AtP x acc (j + 1) := fun m hm => by
 rcases Nat.lt_succ_iff_lt_or_eq.1 hm with h1 | rfl
 ·exact h m h1
 ·exact hx
theorem sp_PlatesOf (d : Dice) (most : Int) (h : d.list.length ≤ 4294967296) (hm : most ≤ 8) :
  Spec Tryz.prog 85 [.ptr 0 0, iV most] [diceBox d] (.list ((platesOf d most).1.map Plate.enc)) [diceBox (platesOf d most).2] := by
 have st := sp_To d most h (by omega)
 have hr := toN_range most d
 obtain ⟨n, hn⟩ : ∃ n : Nat, toN most d = n := ⟨(toN most d).toNat, by omega⟩
 have h0 : PlP most d (n - 0) (toD most d) [] (platesOf d most) := by
  unfold platesOf
  rw [hn]
  exact ⟨by simp, by rw [toD_list]; exact h, by simp; omega⟩
 rw [hn] at st hr
 generalize platesOf d most = R at *
 obtain ⟨RL, RD⟩ := R
 clear hn
 generalize toD most d = d0 at *
 refine spec_body Tryz.func85 rfl (fun E hE => ?_); simp only [go_sem, Tryz.ntmps85]
 repeat' (first | (with_reducible (show runOps ..); first | (refine Qr rfl ?_; try intro K' hK; try simp only [go_sem, *]) | (refine Qi rfl rfl rfl rfl (fun hb K' hK => ?_) (fun hb => ?_) <;> (have hc := hb; try simp only [go_sem] at hc; simp only [go_sem, *]))) | (with_reducible (show Hold ..); first | refine Qh rfl ?_ | refine s_draw rfl Tryz.mixed (by kernel_rfl) ?_ | (refine s_cond rfl ⟨_, rfl, fun hb => ?_, fun hb => ?_⟩ <;> (have hc := hb; try simp only [go_sem] at hc)) | refine s_ret rfl ?_) | (with_reducible (show callA ..); first | (refine call_of [0] [] (st) (by simp) ?_ ?_ (by simp) (.inl rfl) ?_ ?_ ?_; (focus (simp only [go_sem, *]; done)); (focus (simp only [go_sem, *]; done)); (focus (first | (simp; done) | (simp [go_sem]; done))); (focus (first | (simp; done) | (simp [go_sem]; done))); simp only [go_sem, *])) | ((with_reducible refine Qb ?_ ?_); focus kernel_rfl) | ((with_reducible refine And.intro ?_ ?_); focus omega) | (refine contA_of hK ?_; clear hK K'; simp only [go_sem, *]) | (simp only [thenA, inBlockA, go_sem, *]))
 refine s_loop rfl (fun zn zN zenv zAs => ∃ (i : Nat) (dd : Dice) (acc : List Plate), zn = (n) - i ∧ i ≤ (n) ∧ (PlP most d (n - i) dd acc (RL, RD)) ∧ zN = 63 ∧ zenv = [(6, iV ((n - i : Nat) : Int)), (5, .own 1 2 0 acc.length), (0, .ptr 0 0)] ∧ zAs = [diceBox dd, .row 2 (acc.map Plate.enc)]) (n) ⟨[some 0, none], [], _, _, _, (by (simp only [Weak, go_sem, List.map_append, List.map_set, *] <;> (try simp (disch := omega) only [wrap_succ]) <;> (try simp) <;> (try omega))), 0, d0, [], (by simp), (by simp), (by exact h0), rfl, rfl, rfl⟩ ?_; rintro _ _ _ _ ⟨i, dd, acc, rfl, hi, hP, rfl, rfl, rfl⟩
 clear h0 st
 by_cases hi2 : i < n
 ·obtain ⟨k, hk⟩ : ∃ k, n - i = k + 1 := ⟨n - i - 1, by omega⟩
  have hk2 : n - (i + 1) = k := by omega
  rw [hk] at hP ⊢
  have hnx := hP.next
  have hw1 : IntKind.i64.wrap (((k + 1 : Nat) : Int) - 1) = (k : Int) := by rw [wrap_i64 (by omega) (by omega)]; omega
  have hgt : ((k + 1 : Nat) : Int) > 0 := by omega
  obtain ⟨_, hdl, hal⟩ := hP
  have s1 := sp_From dd 1 9 hdl (by omega) (by omega)
  have s2 := sp_Once (fromD 1 9 dd) 4 (by rw [fromD_list]; exact hdl) (by omega)
  have s3 := sp_From (onceR 4 (fromD 1 9 dd)) 1 2 (by rw [onceR_list, fromD_list]; exact hdl) (by omega) (by omega)
  unfold plateN at hnx
  generalize fromN 1 9 dd = x1 at *
  generalize fromD 1 9 dd = d1 at *
  generalize onceR 4 d1 = d2 at *
  generalize fromN 1 2 d2 = x2 at *
  generalize fromD 1 2 d2 = d3 at *
  obtain ⟨⟨x, d'⟩, hxd⟩ : ∃ xd, xd = plateK x1 (onceT 4 d1) x2 d3 d2 := ⟨_, rfl⟩
  rw [← hxd] at hnx
  generalize onceT 4 d1 = b at *
  have hxq : b = true ∧ x = ⟨x1, x2⟩ ∧ d' = d3 ∨ b = false ∧ x = ⟨x1, 0⟩ ∧ d' = d2 := by
   unfold plateK at hxd
   cases b
   ·right; simpa using hxd
   ·left; simpa using hxd
  clear hxd
  rcases hxq with ⟨rfl, hx, hd⟩ | ⟨rfl, hx, hd⟩
  all_goals repeat' (first | (with_reducible (show runOps ..); first | (refine Qr rfl ?_; try intro K' hK; try simp only [go_sem, *]) | (refine Qi rfl rfl rfl rfl (fun hb K' hK => ?_) (fun hb => ?_) <;> (have hc := hb; try simp only [go_sem] at hc; simp only [go_sem, *]))) | (with_reducible (show Hold ..); first | refine Qh rfl ?_ | refine s_draw rfl Tryz.mixed (by kernel_rfl) ?_ | (refine s_cond rfl ⟨_, rfl, fun hb => ?_, fun hb => ?_⟩ <;> (have hc := hb; try simp only [go_sem] at hc)) | refine s_ret rfl ?_) | (with_reducible (show callA ..); first | (refine call_of [0] [] (s1) (by simp) ?_ ?_ (by simp) (.inl rfl) ?_ ?_ ?_; (focus (simp only [go_sem, *]; done)); (focus (simp only [go_sem, *]; done)); (focus (first | (simp; done) | (simp [go_sem]; done))); (focus (first | (simp; done) | (simp [go_sem]; done))); simp only [go_sem, *]) | (refine call_of [0] [] (s2) (by simp) ?_ ?_ (by simp) (.inl rfl) ?_ ?_ ?_; (focus (simp only [go_sem, *]; done)); (focus (simp only [go_sem, *]; done)); (focus (first | (simp; done) | (simp [go_sem]; done))); (focus (first | (simp; done) | (simp [go_sem]; done))); simp only [go_sem, *]) | (refine call_of [0] [] (s3) (by simp) ?_ ?_ (by simp) (.inl rfl) ?_ ?_ ?_; (focus (simp only [go_sem, *]; done)); (focus (simp only [go_sem, *]; done)); (focus (first | (simp; done) | (simp [go_sem]; done))); (focus (first | (simp; done) | (simp [go_sem]; done))); simp only [go_sem, *])) | ((with_reducible refine Qb ?_ ?_); focus kernel_rfl) | ((with_reducible refine And.intro ?_ ?_); focus omega) | (refine contA_of hK ?_; clear hK K'; simp only [go_sem, *]) | (simp only [thenA, inBlockA, go_sem, *]))
  all_goals first | contradiction | skip
  all_goals
   have hx1 := congrArg Plate.number hx
   have hx2 := congrArg Plate.letter hx
   simp only at hx1 hx2
   refine hold_weak (N := 63) (env := [(8, iV 0), (7, .ptr 2 0), (6, iV ((k + 1 : Nat) : Int)), (5, .own 1 2 0 acc.length), (0, .ptr 0 0)]) (As := [diceBox d', .row 2 (acc.map Plate.enc), .box [iV x.number, iV x.letter]]) [some 0, some 1, some 2] [] (by (simp only [Weak, go_sem, List.map_append, List.map_set, *] <;> (try simp (disch := omega) only [wrap_succ]) <;> (try simp) <;> (try omega))) ?_
   clear hx hd hx1 hx2 s1 s2 s3 hm hr
   refine s_loop rfl (fun zn zN zenv zAs => ∃ (j : Nat), zn = (acc.length) - j ∧ j ≤ (acc.length) ∧ (AtP x acc j) ∧ zN = 63 ∧ zenv = [(8, iV j), (7, .ptr 2 0), (6, iV ((k + 1 : Nat) : Int)), (5, .own 1 2 0 acc.length), (0, .ptr 0 0)] ∧ zAs = [diceBox d', .row 2 (acc.map Plate.enc), .box [iV x.number, iV x.letter]]) (acc.length) ⟨[some 0, some 1, some 2], [], _, _, _, (by (simp only [Weak, go_sem, List.map_append, List.map_set, *] <;> (try simp (disch := omega) only [wrap_succ]) <;> (try simp) <;> (try omega))), 0, (by simp), (by simp), (by exact fun m hm => absurd hm (by omega)), rfl, rfl, rfl⟩ ?_; rintro _ _ _ _ ⟨j, rfl, hj, hJ, rfl, rfl, rfl⟩
   have hmn : min j acc.length = j := by omega
   have hl2 : j + (acc.length - j + 1) = j + 1 + (acc.length - j) := by omega
   have hdl2 : (List.drop j (List.map Plate.enc acc)).length = acc.length - j := by simp
   have htd : List.take (acc.length - j) (List.drop j (List.map Plate.enc acc)) = List.drop j (List.map Plate.enc acc) := List.take_of_length_le (by simp)
   by_cases hj2 : j < acc.length
   ·have hj3 : ((j : Int) == (acc.length : Int)) = false := by simp; omega
    have sb := sp_before (acc.getD j default) x
    by_cases hlt : (acc.getD j default).lt x = true
    ·rw [hlt] at sb
     repeat' (first | (with_reducible (show runOps ..); first | (refine Qr rfl ?_; try intro K' hK; try simp only [go_sem, *]) | (refine Qi rfl rfl rfl rfl (fun hb K' hK => ?_) (fun hb => ?_) <;> (have hc := hb; try simp only [go_sem] at hc; simp only [go_sem, *]))) | (with_reducible (show Hold ..); first | refine Qh rfl ?_ | refine s_draw rfl Tryz.mixed (by kernel_rfl) ?_ | (refine s_cond rfl ⟨_, rfl, fun hb => ?_, fun hb => ?_⟩ <;> (have hc := hb; try simp only [go_sem] at hc)) | refine s_ret rfl ?_) | (with_reducible (show (∀ _ : AV, _ → _) ∧ _); refine And.intro ?_ ?_; (focus (intro y hy; first | (obtain ⟨z, _, rfl⟩ := List.mem_map.1 (hy); simp [go_sem]; done) | (obtain ⟨z, _, rfl⟩ := List.mem_map.1 (List.mem_of_mem_take hy); simp [go_sem]; done) | (obtain ⟨z, _, rfl⟩ := List.mem_map.1 (List.mem_of_mem_drop hy); simp [go_sem]; done) | (obtain ⟨z, _, rfl⟩ := List.mem_map.1 (List.mem_of_mem_drop (List.mem_of_mem_take hy)); simp [go_sem]; done)))) | (with_reducible (show callA ..); first | (refine call_s (sb) ?_ ?_; (focus (simp only [go_sem, *]; done)); simp only [go_sem, *])) | ((with_reducible refine Qb ?_ ?_); focus kernel_rfl) | ((with_reducible refine And.intro ?_ ?_); focus omega) | (refine contA_of hK ?_; clear hK K'; simp only [go_sem, *]) | (simp only [thenA, inBlockA, go_sem, *]))
     all_goals first | contradiction | skip
     refine ⟨_, (by omega), [some 0, some 1, some 2], [], _, _, _, (by (simp only [Weak, go_sem, List.map_append, List.map_set, *] <;> (try simp (disch := omega) only [wrap_succ]) <;> (try simp) <;> (try omega))), j + 1, rfl, (by omega), (by exact hJ.next hlt), rfl, rfl, rfl⟩
    ·rw [Bool.not_eq_true] at hlt
     rw [hlt] at sb
     have hin := insPl_at (by omega) hJ (fun _ => hlt)
     by_cases heq : acc.getD j default = x
     ·rw [if_pos ⟨hj2, heq⟩] at hin
      rw [hin] at hnx
      clear hin
      have hne : (decide (acc.getD j default = x)) = true := by simpa using heq
      clear heq
      repeat' (first | (with_reducible (show runOps ..); first | (refine Qr rfl ?_; try intro K' hK; try simp only [go_sem, *]) | (refine Qi rfl rfl rfl rfl (fun hb K' hK => ?_) (fun hb => ?_) <;> (have hc := hb; try simp only [go_sem] at hc; simp only [go_sem, *]))) | (with_reducible (show Hold ..); first | refine Qh rfl ?_ | refine s_draw rfl Tryz.mixed (by kernel_rfl) ?_ | (refine s_cond rfl ⟨_, rfl, fun hb => ?_, fun hb => ?_⟩ <;> (have hc := hb; try simp only [go_sem] at hc)) | refine s_ret rfl ?_) | (with_reducible (show (∀ _ : AV, _ → _) ∧ _); refine And.intro ?_ ?_; (focus (intro y hy; first | (obtain ⟨z, _, rfl⟩ := List.mem_map.1 (hy); simp [go_sem]; done) | (obtain ⟨z, _, rfl⟩ := List.mem_map.1 (List.mem_of_mem_take hy); simp [go_sem]; done) | (obtain ⟨z, _, rfl⟩ := List.mem_map.1 (List.mem_of_mem_drop hy); simp [go_sem]; done) | (obtain ⟨z, _, rfl⟩ := List.mem_map.1 (List.mem_of_mem_drop (List.mem_of_mem_take hy)); simp [go_sem]; done)))) | (with_reducible (show callA ..); first | (refine call_s (sb) ?_ ?_; (focus (simp only [go_sem, *]; done)); simp only [go_sem, *])) | ((with_reducible refine Qb ?_ ?_); focus kernel_rfl) | ((with_reducible refine And.intro ?_ ?_); focus omega) | (refine contA_of hK ?_; clear hK K'; simp only [go_sem, *]) | (simp only [thenA, inBlockA, go_sem, *]))
      all_goals first | contradiction | skip
      refine ⟨_, (by omega), [some 0, some 1], [], _, _, _, (by (simp only [Weak, go_sem, List.map_append, List.map_set, *] <;> (try simp (disch := omega) only [wrap_succ]) <;> (try simp) <;> (try omega))), i + 1, d', acc, rfl, (by omega), (by rw [hk2]; exact hnx), rfl, rfl, rfl⟩
     ·rw [if_neg (fun h => heq h.2)] at hin
      rw [hin] at hnx
      clear hin
      have hne : (decide (acc.getD j default = x)) = false := by simpa using heq
      clear heq
      repeat' (first | (with_reducible (show runOps ..); first | (refine Qr rfl ?_; try intro K' hK; try simp only [go_sem, *]) | (refine Qi rfl rfl rfl rfl (fun hb K' hK => ?_) (fun hb => ?_) <;> (have hc := hb; try simp only [go_sem] at hc; simp only [go_sem, *]))) | (with_reducible (show Hold ..); first | refine Qh rfl ?_ | refine s_draw rfl Tryz.mixed (by kernel_rfl) ?_ | (refine s_cond rfl ⟨_, rfl, fun hb => ?_, fun hb => ?_⟩ <;> (have hc := hb; try simp only [go_sem] at hc)) | refine s_ret rfl ?_) | (with_reducible (show (∀ _ : AV, _ → _) ∧ _); refine And.intro ?_ ?_; (focus (intro y hy; first | (obtain ⟨z, _, rfl⟩ := List.mem_map.1 (hy); simp [go_sem]; done) | (obtain ⟨z, _, rfl⟩ := List.mem_map.1 (List.mem_of_mem_take hy); simp [go_sem]; done) | (obtain ⟨z, _, rfl⟩ := List.mem_map.1 (List.mem_of_mem_drop hy); simp [go_sem]; done) | (obtain ⟨z, _, rfl⟩ := List.mem_map.1 (List.mem_of_mem_drop (List.mem_of_mem_take hy)); simp [go_sem]; done)))) | (with_reducible (show callA ..); first | (refine call_s (sb) ?_ ?_; (focus (simp only [go_sem, *]; done)); simp only [go_sem, *])) | ((with_reducible refine Qb ?_ ?_); focus kernel_rfl) | ((with_reducible refine And.intro ?_ ?_); focus omega) | (refine contA_of hK ?_; clear hK K'; simp only [go_sem, *]) | (simp only [thenA, inBlockA, go_sem, *]))
      all_goals first | contradiction | skip
      refine ⟨_, (by omega), [some 0, some 7], [], _, _, _, (by (simp only [Weak, go_sem, List.map_append, List.map_set, *] <;> (try simp (disch := omega) only [wrap_succ]) <;> (try simp) <;> (try omega))), i + 1, d', acc.take j ++ x :: acc.drop j, rfl, (by omega), (by rw [hk2]; exact hnx), rfl, rfl, rfl⟩
   ·have hin := insPl_at (x := x) (l := acc) (k := j) (by omega) hJ (fun h => absurd h hj2)
    rw [if_neg (fun h => hj2 h.1)] at hin
    rw [hin] at hnx
    clear hin
    have hj3 : ((j : Int) == (acc.length : Int)) = true := by simp; omega
    repeat' (first | (with_reducible (show runOps ..); first | (refine Qr rfl ?_; try intro K' hK; try simp only [go_sem, *]) | (refine Qi rfl rfl rfl rfl (fun hb K' hK => ?_) (fun hb => ?_) <;> (have hc := hb; try simp only [go_sem] at hc; simp only [go_sem, *]))) | (with_reducible (show Hold ..); first | refine Qh rfl ?_ | refine s_draw rfl Tryz.mixed (by kernel_rfl) ?_ | (refine s_cond rfl ⟨_, rfl, fun hb => ?_, fun hb => ?_⟩ <;> (have hc := hb; try simp only [go_sem] at hc)) | refine s_ret rfl ?_) | (with_reducible (show (∀ _ : AV, _ → _) ∧ _); refine And.intro ?_ ?_; (focus (intro y hy; first | (obtain ⟨z, _, rfl⟩ := List.mem_map.1 (hy); simp [go_sem]; done) | (obtain ⟨z, _, rfl⟩ := List.mem_map.1 (List.mem_of_mem_take hy); simp [go_sem]; done) | (obtain ⟨z, _, rfl⟩ := List.mem_map.1 (List.mem_of_mem_drop hy); simp [go_sem]; done) | (obtain ⟨z, _, rfl⟩ := List.mem_map.1 (List.mem_of_mem_drop (List.mem_of_mem_take hy)); simp [go_sem]; done)))) | ((with_reducible refine Qb ?_ ?_); focus kernel_rfl) | ((with_reducible refine And.intro ?_ ?_); focus omega) | (refine contA_of hK ?_; clear hK K'; simp only [go_sem, *]) | (simp only [thenA, inBlockA, go_sem, *]))
    all_goals first | contradiction | skip
    refine ⟨_, (by omega), [some 0, some 7], [], _, _, _, (by (simp only [Weak, go_sem, List.map_append, List.map_set, *] <;> (try simp (disch := omega) only [wrap_succ]) <;> (try simp) <;> (try omega))), i + 1, d', acc.take j ++ x :: acc.drop j, rfl, (by omega), (by rw [hk2]; exact hnx), rfl, rfl, rfl⟩
 ·have hni : n - i = 0 := by omega
  rw [hni] at hP ⊢
  obtain ⟨e, _, _⟩ := hP
  rw [platesN] at e
  cases e
  repeat' (first | (with_reducible (show runOps ..); first | (refine Qr rfl ?_; try intro K' hK; try simp only [go_sem, *]) | (refine Qi rfl rfl rfl rfl (fun hb K' hK => ?_) (fun hb => ?_) <;> (have hc := hb; try simp only [go_sem] at hc; simp only [go_sem, *]))) | (with_reducible (show Hold ..); first | refine Qh rfl ?_ | refine s_draw rfl Tryz.mixed (by kernel_rfl) ?_ | (refine s_cond rfl ⟨_, rfl, fun hb => ?_, fun hb => ?_⟩ <;> (have hc := hb; try simp only [go_sem] at hc)) | refine s_ret rfl ?_) | ((with_reducible refine Qb ?_ ?_); focus kernel_rfl) | ((with_reducible refine And.intro ?_ ?_); focus omega) | (refine contA_of hK ?_; clear hK K'; simp only [go_sem, *]) | (simp only [thenA, inBlockA, go_sem, *]))
  refine ⟨[_], [some 0], [1], ⟨rfl, trivial⟩, ?_⟩
  simp only [go_sem, *]
end Go.Abs

namespace Go.Abs
open Go Go.Proofs
set_option maxRecDepth 10000
set_option maxHeartbeats 4000000
theorem streetN_list (d : Dice) (h : Int) : (streetN d h).2.list = d.list := by unfold streetN; rw [platesOf_list, onceR_list]
theorem streetsN_list (h : Int) : ∀ (n : Nat) (d : Dice) (out : Plan), (streetsN h n d out).2.list = d.list
 | 0, d, out => rfl
 | n + 1, d, out => by rw [streetsN, streetsN_list h n]; exact streetN_list d h
theorem planOf_list (d : Dice) (h : Int) : (planOf d h).2.list = d.list := by unfold planOf; rw [streetsN_list, fromD_list]
def StP (houses : Int) (k : Nat) (dd : Dice) (acc : Plan) (R : Plan × Dice) : Prop := streetsN houses k dd acc = R ∧ dd.list.length ≤ 4294967296 ∧ acc.length + k ≤ 3
theorem StP.next {houses : Int} {dd : Dice} {k : Nat} {acc : Plan} {R : Plan × Dice} (h : StP houses (k + 1) dd acc R) : StP houses k (streetN dd houses).2 (acc ++ [(streetN dd houses).1]) R := by
 obtain ⟨h1, h2, h3⟩ := h
 exact ⟨h1, by rw [streetN_list]; exact h2, by simp; omega⟩
theorem sp_PlanOf (d : Dice) (houses : Int) (h : d.list.length ≤ 4294967296) (hm : houses ≤ 8) :
  Spec Tryz.prog 22 [.ptr 0 0, iV houses] [diceBox d] (encPlan (planOf d houses).1) [diceBox (planOf d houses).2] := by
 have st := sp_From d 1 3 h (by omega) (by omega)
 have hr := fromN_le (lo := 1) (hi := 3) (by omega) d
 obtain ⟨n, hn⟩ : ∃ n : Nat, fromN 1 3 d = n := ⟨(fromN 1 3 d).toNat, by omega⟩
 have h0 : StP houses (n - 0) (fromD 1 3 d) [] (planOf d houses) := by
  unfold planOf
  rw [hn]
  exact ⟨by simp, by rw [fromD_list]; exact h, by simp; omega⟩
 rw [hn] at st hr
 generalize planOf d houses = R at *
 obtain ⟨RL, RD⟩ := R
 clear hn
 generalize fromD 1 3 d = d0 at *
 refine spec_body Tryz.func22 rfl (fun E hE => ?_); simp only [go_sem, Tryz.ntmps22]
 repeat' (first | (with_reducible (show runOps ..); first | (refine Qr rfl ?_; try intro K' hK; try simp only [go_sem, *])) | (with_reducible (show Hold ..); first | refine Qh rfl ?_ | refine s_draw rfl Tryz.mixed (by kernel_rfl) ?_ | (refine s_cond rfl ⟨_, rfl, fun hb => ?_, fun hb => ?_⟩ <;> (have hc := hb; try simp only [go_sem] at hc)) | refine s_ret rfl ?_) | (with_reducible (show callA ..); first | (refine call_of [0] [] (st) (by simp) ?_ ?_ (by simp) (.inl rfl) ?_ ?_ ?_; (focus (simp only [go_sem, *]; done)); (focus (simp only [go_sem, *]; done)); (focus (first | (simp; done) | (simp [go_sem]; done))); (focus (first | (simp; done) | (simp [go_sem]; done))); simp only [go_sem, *])) | ((with_reducible refine Qb ?_ ?_); focus kernel_rfl) | ((with_reducible refine And.intro ?_ ?_); focus omega) | (refine contA_of hK ?_; clear hK K'; simp only [go_sem, *]) | (simp only [thenA, inBlockA, go_sem, *]))
 refine s_loop rfl (fun zn zN zenv zAs => ∃ (i : Nat) (dd : Dice) (acc : Plan), zn = (n) - i ∧ i ≤ (n) ∧ (StP houses (n - i) dd acc (RL, RD)) ∧ zN = 26 ∧ zenv = [(6, iV ((n - i : Nat) : Int)), (5, .ptr 2 0), (4, .ptr 1 0), (1, iV houses), (0, .ptr 0 0)] ∧ zAs = [diceBox dd, .box [nilV], .box [.own 3 1 0 acc.length], .box (acc.map encStreet)]) (n) ⟨[some 0, some 1, some 2, none], [], _, _, _, (by (simp only [Weak, go_sem, List.map_append, List.map_set, *] <;> (try simp (disch := omega) only [wrap_succ]) <;> (try simp) <;> (try omega))), 0, d0, [], (by simp), (by simp), (by exact h0), rfl, rfl, rfl⟩ ?_; rintro _ _ _ _ ⟨i, dd, acc, rfl, hi, hP, rfl, rfl, rfl⟩
 clear h0 st
 by_cases hi2 : i < n
 ·obtain ⟨k, hk⟩ : ∃ k, n - i = k + 1 := ⟨n - i - 1, by omega⟩
  have hk2 : n - (i + 1) = k := by omega
  rw [hk] at hP ⊢
  have hnx := hP.next
  have hw1 : IntKind.i64.wrap (((k + 1 : Nat) : Int) - 1) = (k : Int) := by rw [wrap_i64 (by omega) (by omega)]; omega
  have hgt : ((k + 1 : Nat) : Int) > 0 := by omega
  obtain ⟨_, hdl, hal⟩ := hP
  have s2 := sp_Once dd 3 hdl (by omega)
  have hol : (onceR 3 dd).list.length ≤ 4294967296 := by rw [onceR_list]; exact hdl
  unfold streetN at hnx
  generalize onceR 3 dd = d2 at *
  by_cases b : onceT 3 dd = true
  ·rw [if_pos b] at hnx
   rw [b] at s2
   clear b
   have s3 := sp_PlatesOf d2 0 hol (by omega)
   generalize platesOf d2 0 = L at *
   obtain ⟨l, d3⟩ := L
   have hnx2 : StP houses k d3 (acc ++ [l]) (RL, RD) := hnx
   clear hnx
   simp only at s3
   repeat' (first | (with_reducible (show runOps ..); first | (refine Qr rfl ?_; try intro K' hK; try simp only [go_sem, *])) | (with_reducible (show Hold ..); first | refine Qh rfl ?_ | refine s_draw rfl Tryz.mixed (by kernel_rfl) ?_ | (refine s_cond rfl ⟨_, rfl, fun hb => ?_, fun hb => ?_⟩ <;> (have hc := hb; try simp only [go_sem] at hc)) | refine s_ret rfl ?_) | (with_reducible (show callA ..); first | (refine call_of [0] [] (s2) (by simp) ?_ ?_ (by simp) (.inl rfl) ?_ ?_ ?_; (focus (simp only [go_sem, *]; done)); (focus (simp only [go_sem, *]; done)); (focus (first | (simp; done) | (simp [go_sem]; done))); (focus (first | (simp; done) | (simp [go_sem]; done))); simp only [go_sem, *]) | (refine call_of [0] [] (s3) (by simp) ?_ ?_ (by simp) (.inl rfl) ?_ ?_ ?_; (focus (simp only [go_sem, *]; done)); (focus (simp only [go_sem, *]; done)); (focus (first | (simp; done) | (simp [go_sem]; done))); (focus (first | (simp; done) | (simp [go_sem]; done))); simp only [go_sem, *])) | ((with_reducible refine Qb ?_ ?_); focus kernel_rfl) | ((with_reducible refine And.intro ?_ ?_); focus omega) | (refine contA_of hK ?_; clear hK K'; simp only [go_sem, *]) | (simp only [thenA, inBlockA, go_sem, *]))
   all_goals first | contradiction | skip
   refine ⟨_, (by omega), [some 0, some 1, some 2, some 5], [], _, _, _, (by (simp only [Weak, go_sem, List.map_append, List.map_set, *] <;> (try simp (disch := omega) only [wrap_succ]) <;> (try simp) <;> (try omega))), i + 1, d3, acc ++ [l], rfl, (by omega), (by rw [hk2]; exact hnx2), rfl, rfl, rfl⟩
  ·rw [if_neg b] at hnx
   rw [Bool.not_eq_true] at b
   rw [b] at s2
   clear b
   have s3 := sp_PlatesOf d2 houses hol hm
   generalize platesOf d2 houses = L at *
   obtain ⟨l, d3⟩ := L
   have hnx2 : StP houses k d3 (acc ++ [l]) (RL, RD) := hnx
   clear hnx
   simp only at s3
   repeat' (first | (with_reducible (show runOps ..); first | (refine Qr rfl ?_; try intro K' hK; try simp only [go_sem, *])) | (with_reducible (show Hold ..); first | refine Qh rfl ?_ | refine s_draw rfl Tryz.mixed (by kernel_rfl) ?_ | (refine s_cond rfl ⟨_, rfl, fun hb => ?_, fun hb => ?_⟩ <;> (have hc := hb; try simp only [go_sem] at hc)) | refine s_ret rfl ?_) | (with_reducible (show callA ..); first | (refine call_of [0] [] (s2) (by simp) ?_ ?_ (by simp) (.inl rfl) ?_ ?_ ?_; (focus (simp only [go_sem, *]; done)); (focus (simp only [go_sem, *]; done)); (focus (first | (simp; done) | (simp [go_sem]; done))); (focus (first | (simp; done) | (simp [go_sem]; done))); simp only [go_sem, *]) | (refine call_of [0] [] (s3) (by simp) ?_ ?_ (by simp) (.inl rfl) ?_ ?_ ?_; (focus (simp only [go_sem, *]; done)); (focus (simp only [go_sem, *]; done)); (focus (first | (simp; done) | (simp [go_sem]; done))); (focus (first | (simp; done) | (simp [go_sem]; done))); simp only [go_sem, *])) | ((with_reducible refine Qb ?_ ?_); focus kernel_rfl) | ((with_reducible refine And.intro ?_ ?_); focus omega) | (refine contA_of hK ?_; clear hK K'; simp only [go_sem, *]) | (simp only [thenA, inBlockA, go_sem, *]))
   all_goals first | contradiction | skip
   refine ⟨_, (by omega), [some 0, some 1, some 2, some 5], [], _, _, _, (by (simp only [Weak, go_sem, List.map_append, List.map_set, *] <;> (try simp (disch := omega) only [wrap_succ]) <;> (try simp) <;> (try omega))), i + 1, d3, acc ++ [l], rfl, (by omega), (by rw [hk2]; exact hnx2), rfl, rfl, rfl⟩
 ·have hni : n - i = 0 := by omega
  rw [hni] at hP ⊢
  obtain ⟨e, _, _⟩ := hP
  rw [streetsN] at e
  cases e
  repeat' (first | (with_reducible (show runOps ..); first | (refine Qr rfl ?_; try intro K' hK; try simp only [go_sem, *])) | (with_reducible (show Hold ..); first | refine Qh rfl ?_ | refine s_draw rfl Tryz.mixed (by kernel_rfl) ?_ | (refine s_cond rfl ⟨_, rfl, fun hb => ?_, fun hb => ?_⟩ <;> (have hc := hb; try simp only [go_sem] at hc)) | refine s_ret rfl ?_) | ((with_reducible refine Qb ?_ ?_); focus kernel_rfl) | ((with_reducible refine And.intro ?_ ?_); focus omega) | (refine contA_of hK ?_; clear hK K'; simp only [go_sem, *]) | (simp only [thenA, inBlockA, go_sem, *]))
  refine ⟨[.agg [.own 3 1 0 (List.length RL)]], [some 0], [3], ⟨by simp only [resOne, go_sem], trivial⟩, ?_⟩
  simp only [go_sem, *]
  simp
end Go.Abs

namespace Go.Abs
open Go Go.Proofs
set_option maxRecDepth 10000
set_option maxHeartbeats 4000000
theorem somePlate_list (d : Dice) (l : List Plate) : (somePlate d l).2.list = d.list := by
 unfold somePlate
 split
 ·exact toD_list _ _
 ·split
  ·show (fromD 1 9 (onceR 12 d)).list = _
   unfold fromD onceR; rw [toD_list, toD_list]
  ·show (toD _ (onceR 12 d)).list = _
   unfold onceR; rw [toD_list, toD_list]
theorem sp_plateOf (d : Dice) (l : List Plate) (h : d.list.length ≤ 4294967296) (hl : l.length ≤ 4294967296) :
  Spec Tryz.prog 86 [.ptr 0 0, encStreet l] [diceBox d] (Plate.enc (somePlate d l).1) [diceBox (somePlate d l).2] := by
 have ho : (onceR 12 d).list.length ≤ 4294967296 := by unfold onceR; rw [toD_list]; exact h
 by_cases q : l.length = 0
 ·have s1 := sp_From d 1 9 h (by omega) (by omega)
  have e : somePlate d l = (⟨fromN 1 9 d, 0⟩, fromD 1 9 d) := by unfold somePlate; rw [if_pos q]
  rw [e]
  have q2 : ((l.length : Int) == 0) = true := by rw [beq_iff_eq]; omega
  clear e
  generalize fromN 1 9 d = x1 at *
  generalize fromD 1 9 d = d1 at *
  refine spec_body Tryz.func86 rfl (fun E hE => ?_); simp only [go_sem, Tryz.ntmps86]
  repeat' (first | (with_reducible (show runOps ..); first | (refine Qr rfl ?_; try intro K' hK; try simp only [go_sem, *]) | (refine Qi rfl rfl rfl rfl (fun hb K' hK => ?_) (fun hb => ?_) <;> (have hc := hb; try simp only [go_sem] at hc; simp only [go_sem, *]))) | (with_reducible (show Hold ..); first | refine Qh rfl ?_ | (refine s_cond rfl ⟨_, rfl, fun hb => ?_, fun hb => ?_⟩ <;> (have hc := hb; try simp only [go_sem] at hc)) | refine s_ret rfl ?_) | (with_reducible (show callA ..); first | (refine call_of [0] [] (s1) (by simp) ?_ ?_ (by simp) (.inl rfl) ?_ ?_ ?_; (focus (simp only [go_sem, *]; done)); (focus (simp only [go_sem, *]; done)); (focus (first | (simp; done) | (simp [go_sem]; done))); (focus (first | (simp; done) | (simp [go_sem]; done))); simp only [go_sem, *])) | ((with_reducible refine Qb ?_ ?_); focus kernel_rfl) | ((with_reducible refine And.intro ?_ ?_); focus omega) | (refine contA_of hK ?_; clear hK K'; simp only [go_sem, *]) | (simp only [thenA, inBlockA, go_sem, *]))
  all_goals first | contradiction | skip
  refine ⟨[.agg [iV x1, iV 0]], [some 0], [], ⟨by simp only [resOne, go_sem], trivial⟩, ?_⟩
  simp only [go_sem, *]
 ·have q2 : ((l.length : Int) == 0) = false := by rw [beq_eq_false_iff_ne]; omega
  have so := sp_Once d 12 h (by omega)
  have e : somePlate d l = if onceT 12 d = true then (⟨fromN 1 9 (onceR 12 d), 0⟩, fromD 1 9 (onceR 12 d)) else (l.getD (toN (l.length - 1) (onceR 12 d)).toNat default, toD (l.length - 1) (onceR 12 d)) := by unfold somePlate; rw [if_neg q]
  rw [e]
  clear e
  generalize onceR 12 d = d1 at *
  by_cases b : onceT 12 d = true
  ·have s1 := sp_From d1 1 9 ho (by omega) (by omega)
   rw [if_pos b]
   rw [b] at so
   clear b
   generalize fromN 1 9 d1 = x1 at *
   generalize fromD 1 9 d1 = d2 at *
   refine spec_body Tryz.func86 rfl (fun E hE => ?_); simp only [go_sem, Tryz.ntmps86]
   repeat' (first | (with_reducible (show runOps ..); first | (refine Qr rfl ?_; try intro K' hK; try simp only [go_sem, *]) | (refine Qi rfl rfl rfl rfl (fun hb K' hK => ?_) (fun hb => ?_) <;> (have hc := hb; try simp only [go_sem] at hc; simp only [go_sem, *]))) | (with_reducible (show Hold ..); first | refine Qh rfl ?_ | (refine s_cond rfl ⟨_, rfl, fun hb => ?_, fun hb => ?_⟩ <;> (have hc := hb; try simp only [go_sem] at hc)) | refine s_ret rfl ?_) | (with_reducible (show callA ..); first | (refine call_of [0] [] (so) (by simp) ?_ ?_ (by simp) (.inl rfl) ?_ ?_ ?_; (focus (simp only [go_sem, *]; done)); (focus (simp only [go_sem, *]; done)); (focus (first | (simp; done) | (simp [go_sem]; done))); (focus (first | (simp; done) | (simp [go_sem]; done))); simp only [go_sem, *]) | (refine call_of [0] [] (s1) (by simp) ?_ ?_ (by simp) (.inl rfl) ?_ ?_ ?_; (focus (simp only [go_sem, *]; done)); (focus (simp only [go_sem, *]; done)); (focus (first | (simp; done) | (simp [go_sem]; done))); (focus (first | (simp; done) | (simp [go_sem]; done))); simp only [go_sem, *])) | ((with_reducible refine Qb ?_ ?_); focus kernel_rfl) | ((with_reducible refine And.intro ?_ ?_); focus omega) | (refine contA_of hK ?_; clear hK K'; simp only [go_sem, *]) | (simp only [thenA, inBlockA, go_sem, *]))
   all_goals first | contradiction | skip
   refine ⟨[.agg [iV x1, iV 0]], [some 0], [], ⟨by simp only [resOne, go_sem], trivial⟩, ?_⟩
   simp only [go_sem, *]
  ·rw [if_neg b]
   rw [Bool.not_eq_true] at b
   rw [b] at so
   clear b
   have s1 := sp_To d1 ((l.length : Int) - 1) ho (by omega)
   have hr := toN_le (n := (l.length : Int) - 1) (by omega) d1
   have hw : IntKind.i64.wrap ((l.length : Int) - 1) = (l.length : Int) - 1 := wrap_i64 (by omega) (by omega)
   obtain ⟨k, hk⟩ : ∃ k : Nat, toN ((l.length : Int) - 1) d1 = k := ⟨(toN ((l.length : Int) - 1) d1).toNat, by omega⟩
   rw [hk] at hr s1 ⊢
   have hkl : k < l.length := by omega
   simp only [Int.toNat_natCast]
   clear hk hr
   generalize toD ((l.length : Int) - 1) d1 = d2 at *
   refine spec_body Tryz.func86 rfl (fun E hE => ?_); simp only [go_sem, Tryz.ntmps86]
   repeat' (first | (with_reducible (show runOps ..); first | (refine Qr rfl ?_; try intro K' hK; try simp only [go_sem, *]) | (refine Qi rfl rfl rfl rfl (fun hb K' hK => ?_) (fun hb => ?_) <;> (have hc := hb; try simp only [go_sem] at hc; simp only [go_sem, *]))) | (with_reducible (show Hold ..); first | refine Qh rfl ?_ | (refine s_cond rfl ⟨_, rfl, fun hb => ?_, fun hb => ?_⟩ <;> (have hc := hb; try simp only [go_sem] at hc)) | refine s_ret rfl ?_) | (with_reducible (show callA ..); first | (refine call_of [0] [] (so) (by simp) ?_ ?_ (by simp) (.inl rfl) ?_ ?_ ?_; (focus (simp only [go_sem, *]; done)); (focus (simp only [go_sem, *]; done)); (focus (first | (simp; done) | (simp [go_sem]; done))); (focus (first | (simp; done) | (simp [go_sem]; done))); simp only [go_sem, *]) | (refine call_of [0] [] (s1) (by simp) ?_ ?_ (by simp) (.inl rfl) ?_ ?_ ?_; (focus (simp only [go_sem, *]; done)); (focus (simp only [go_sem, *]; done)); (focus (first | (simp; done) | (simp [go_sem]; done))); (focus (first | (simp; done) | (simp [go_sem]; done))); simp only [go_sem, *])) | ((with_reducible refine Qb ?_ ?_); focus kernel_rfl) | ((with_reducible refine And.intro ?_ ?_); focus omega) | (refine contA_of hK ?_; clear hK K'; simp only [go_sem, *]) | (simp only [thenA, inBlockA, go_sem, *]))
   all_goals first | contradiction | skip
   refine ⟨[(l.getD k default).enc], [some 0], [], ⟨by simp only [resOne, go_sem], trivial⟩, ?_⟩
   simp only [go_sem, *]
end Go.Abs

namespace Go.Abs
open Go Go.Proofs
set_option maxRecDepth 10000
set_option maxHeartbeats 4000000
theorem changeAt_list (d : Dice) (p : Plan) (k s : Int) : (changeAt d p k s).2.list = d.list := by
 unfold changeAt fromD
 split
 ·exact toD_list _ _
 ·split
  ·simp only
   split <;> simp only [somePlate_list, toD_list]
  ·split
   ·simp only [somePlate_list]
   ·rfl
theorem changeOf_list (d : Dice) (p : Plan) : (changeOf d p).2.list = d.list := by
 unfold changeOf fromD; rw [changeAt_list, toD_list, toD_list]
theorem sp_ChangeOf (d : Dice) (p : Plan) (h : d.list.length ≤ 4294967296) (v : Valid p) :
  Spec Tryz.prog 23 [.ptr 0 0, encPlan p] [diceBox d] (Change.enc (changeOf d p).1) [diceBox (changeOf d p).2] := by
 have hp0 := v.ne
 have hp3 := v.len
 have s1 := sp_From d 1 7 h (by omega) (by omega)
 have s2 := sp_To (fromD 1 7 d) ((p.length : Int) - 1) (by unfold fromD; rw [toD_list]; exact h) (by omega)
 have hr1 := fromN_le (lo := 1) (hi := 7) (by omega) d
 have hr2 := toN_le (n := (p.length : Int) - 1) (by omega) (fromD 1 7 d)
 have hl2 : (toD ((p.length : Int) - 1) (fromD 1 7 d)).list.length ≤ 4294967296 := by unfold fromD; rw [toD_list, toD_list]; exact h
 have hw0 : IntKind.i64.wrap ((p.length : Int) - 1) = (p.length : Int) - 1 := wrap_i64 (by omega) (by omega)
 unfold changeOf
 obtain ⟨s, hs⟩ : ∃ s : Nat, toN ((p.length : Int) - 1) (fromD 1 7 d) = s := ⟨(toN ((p.length : Int) - 1) (fromD 1 7 d)).toNat, by omega⟩
 rw [hs] at hr2 s2 ⊢
 clear hs
 generalize toD ((p.length : Int) - 1) (fromD 1 7 d) = d2 at *
 generalize fromD 1 7 d = d1 at *
 generalize fromN 1 7 d = k at *
 have hsl : s < p.length := by omega
 have hrow : (rowAt p (s : Int)).length ≤ 8 := (v.row _).len
 have hgd : List.getD p s default = rowAt p (s : Int) := rfl
 unfold changeAt
 by_cases k4 : k = 4
 ·rw [if_pos k4]
  subst k4
  have s3 := sp_From d2 1 2 hl2 (by omega) (by omega)
  have hr3 := fromN_le (lo := 1) (hi := 2) (by omega) d2
  generalize fromN 1 2 d2 = x at *
  generalize fromD 1 2 d2 = d3 at *
  have s4 := sp_Mod ((s : Int) + x) (p.length : Int) (by omega) (by omega)
  have hw1 : IntKind.i64.wrap ((s : Int) + x) = (s : Int) + x := wrap_i64 (by omega) (by omega)
  generalize ((s : Int) + x) % (p.length : Int) = o at *
  refine spec_body Tryz.func23 rfl (fun E hE => ?_); simp only [go_sem, Tryz.ntmps23]
  repeat' (first | (with_reducible (show runOps ..); first | (refine Qr rfl ?_; try intro K' hK; try simp only [go_sem, *])) | (with_reducible (show Hold ..); first | refine Qh rfl ?_ | refine s_draw rfl Tryz.mixed (by kernel_rfl) ?_ | (refine s_cond rfl ⟨_, rfl, fun hb => ?_, fun hb => ?_⟩ <;> (have hc := hb; try simp only [go_sem] at hc)) | refine s_ret rfl ?_) | (with_reducible (show callA ..); first | (refine call_of [0] [] (s1) (by simp) ?_ ?_ (by simp) (.inl rfl) ?_ ?_ ?_; (focus (simp only [go_sem, *]; done)); (focus (simp only [go_sem, *]; done)); (focus (first | (simp; done) | (simp [go_sem]; done))); (focus (first | (simp; done) | (simp [go_sem]; done))); simp only [go_sem, *]) | (refine call_of [0] [] (s2) (by simp) ?_ ?_ (by simp) (.inl rfl) ?_ ?_ ?_; (focus (simp only [go_sem, *]; done)); (focus (simp only [go_sem, *]; done)); (focus (first | (simp; done) | (simp [go_sem]; done))); (focus (first | (simp; done) | (simp [go_sem]; done))); simp only [go_sem, *]) | (refine call_of [0] [] (s3) (by simp) ?_ ?_ (by simp) (.inl rfl) ?_ ?_ ?_; (focus (simp only [go_sem, *]; done)); (focus (simp only [go_sem, *]; done)); (focus (first | (simp; done) | (simp [go_sem]; done))); (focus (first | (simp; done) | (simp [go_sem]; done))); simp only [go_sem, *]) | (refine call_s (s4) ?_ ?_; (focus (simp only [go_sem, *]; done)); simp only [go_sem, *])) | ((with_reducible refine Qb ?_ ?_); focus kernel_rfl) | ((with_reducible refine And.intro ?_ ?_); focus omega) | (refine contA_of hK ?_; clear hK K'; simp only [go_sem, *]) | (simp only [thenA, inBlockA, go_sem, *]))
  all_goals first | contradiction | skip
  refine ⟨[.agg [iV 4, iV s, iV o, iV 0, iV 0, iV 0, iV 0]], [some 0], [], ⟨by simp only [resOne, go_sem], trivial⟩, ?_⟩
  simp only [go_sem, zeroPlate, *]
 rw [if_neg k4]
 have k4' : (k == 4) = false := by rw [beq_eq_false_iff_ne]; exact k4
 by_cases k7 : k = 7
 ·rw [if_pos k7]
  subst k7
  have s3 := sp_From d2 1 2 hl2 (by omega) (by omega)
  have hr3 := fromN_le (lo := 1) (hi := 2) (by omega) d2
  have hl3 : (fromD 1 2 d2).list.length ≤ 4294967296 := by unfold fromD; rw [toD_list]; exact hl2
  generalize fromN 1 2 d2 = x at *
  generalize fromD 1 2 d2 = d3 at *
  have s4 := sp_Mod ((s : Int) + x) (p.length : Int) (by omega) (by omega)
  have hw1 : IntKind.i64.wrap ((s : Int) + x) = (s : Int) + x := wrap_i64 (by omega) (by omega)
  generalize ((s : Int) + x) % (p.length : Int) = o at *
  simp only
  have sa := sp_plateOf d3 (rowAt p (s : Int)) hl3 (by omega)
  have hla : (somePlate d3 (rowAt p (s : Int))).2.list.length ≤ 4294967296 := by rw [somePlate_list]; exact hl3
  generalize somePlate d3 (rowAt p (s : Int)) = A at *
  obtain ⟨a, d4⟩ := A
  simp only at sa hla ⊢
  have sb := sp_plateOf d4 (rowAt p (s : Int)) hla (by omega)
  generalize somePlate d4 (rowAt p (s : Int)) = B at *
  obtain ⟨b, d5⟩ := B
  simp only at sb ⊢
  have sc := sp_before b a
  by_cases hlt : b.lt a = true
  ·rw [if_pos hlt]
   rw [hlt] at sc
   clear hlt
   refine spec_body Tryz.func23 rfl (fun E hE => ?_); simp only [go_sem, Tryz.ntmps23]
   repeat' (first | (with_reducible (show runOps ..); first | (refine Qr rfl ?_; try intro K' hK; try simp only [go_sem, *])) | (with_reducible (show Hold ..); first | refine Qh rfl ?_ | refine s_draw rfl Tryz.mixed (by kernel_rfl) ?_ | (refine s_cond rfl ⟨_, rfl, fun hb => ?_, fun hb => ?_⟩ <;> (have hc := hb; try simp only [go_sem] at hc)) | refine s_ret rfl ?_) | (with_reducible (show callA ..); first | ((first | refine call_s (s4) ?_ ?_ | refine call_s (sc) ?_ ?_); (focus (simp only [go_sem, *]; done)); simp only [go_sem, *]) | (refine call_of [0] [] (s1) (by simp) ?_ ?_ (by simp) (.inl rfl) ?_ ?_ ?_; (focus (simp only [go_sem, *]; done)); (focus (simp only [go_sem, *]; done)); (focus (first | (simp; done) | (simp [go_sem]; done))); (focus (first | (simp; done) | (simp [go_sem]; done))); simp only [go_sem, *]) | (refine call_of [0] [] (s2) (by simp) ?_ ?_ (by simp) (.inl rfl) ?_ ?_ ?_; (focus (simp only [go_sem, *]; done)); (focus (simp only [go_sem, *]; done)); (focus (first | (simp; done) | (simp [go_sem]; done))); (focus (first | (simp; done) | (simp [go_sem]; done))); simp only [go_sem, *]) | (refine call_of [0] [] (s3) (by simp) ?_ ?_ (by simp) (.inl rfl) ?_ ?_ ?_; (focus (simp only [go_sem, *]; done)); (focus (simp only [go_sem, *]; done)); (focus (first | (simp; done) | (simp [go_sem]; done))); (focus (first | (simp; done) | (simp [go_sem]; done))); simp only [go_sem, *]) | (refine call_of [0] [] (sa) (by simp) ?_ ?_ (by simp) (.inl rfl) ?_ ?_ ?_; (focus (simp only [go_sem, *]; done)); (focus (simp only [go_sem, *]; done)); (focus (first | (simp; done) | (simp [go_sem]; done))); (focus (first | (simp; done) | (simp [go_sem]; done))); simp only [go_sem, *]) | (refine call_of [0] [] (sb) (by simp) ?_ ?_ (by simp) (.inl rfl) ?_ ?_ ?_; (focus (simp only [go_sem, *]; done)); (focus (simp only [go_sem, *]; done)); (focus (first | (simp; done) | (simp [go_sem]; done))); (focus (first | (simp; done) | (simp [go_sem]; done))); simp only [go_sem, *])) | ((with_reducible refine Qb ?_ ?_); focus kernel_rfl) | ((with_reducible refine And.intro ?_ ?_); focus omega) | (refine contA_of hK ?_; clear hK K'; simp only [go_sem, *]) | (simp only [thenA, inBlockA, go_sem, *]))
   all_goals first | contradiction | skip
   refine ⟨[.agg [iV 7, iV s, iV o, iV b.number, iV b.letter, iV a.number, iV a.letter]], [some 0], [], ⟨by simp only [resOne, go_sem], trivial⟩, ?_⟩
   simp only [go_sem, zeroPlate, *]
  ·rw [if_neg hlt]
   rw [Bool.not_eq_true] at hlt
   rw [hlt] at sc
   clear hlt
   refine spec_body Tryz.func23 rfl (fun E hE => ?_); simp only [go_sem, Tryz.ntmps23]
   repeat' (first | (with_reducible (show runOps ..); first | (refine Qr rfl ?_; try intro K' hK; try simp only [go_sem, *])) | (with_reducible (show Hold ..); first | refine Qh rfl ?_ | refine s_draw rfl Tryz.mixed (by kernel_rfl) ?_ | (refine s_cond rfl ⟨_, rfl, fun hb => ?_, fun hb => ?_⟩ <;> (have hc := hb; try simp only [go_sem] at hc)) | refine s_ret rfl ?_) | (with_reducible (show callA ..); first | ((first | refine call_s (s4) ?_ ?_ | refine call_s (sc) ?_ ?_); (focus (simp only [go_sem, *]; done)); simp only [go_sem, *]) | (refine call_of [0] [] (s1) (by simp) ?_ ?_ (by simp) (.inl rfl) ?_ ?_ ?_; (focus (simp only [go_sem, *]; done)); (focus (simp only [go_sem, *]; done)); (focus (first | (simp; done) | (simp [go_sem]; done))); (focus (first | (simp; done) | (simp [go_sem]; done))); simp only [go_sem, *]) | (refine call_of [0] [] (s2) (by simp) ?_ ?_ (by simp) (.inl rfl) ?_ ?_ ?_; (focus (simp only [go_sem, *]; done)); (focus (simp only [go_sem, *]; done)); (focus (first | (simp; done) | (simp [go_sem]; done))); (focus (first | (simp; done) | (simp [go_sem]; done))); simp only [go_sem, *]) | (refine call_of [0] [] (s3) (by simp) ?_ ?_ (by simp) (.inl rfl) ?_ ?_ ?_; (focus (simp only [go_sem, *]; done)); (focus (simp only [go_sem, *]; done)); (focus (first | (simp; done) | (simp [go_sem]; done))); (focus (first | (simp; done) | (simp [go_sem]; done))); simp only [go_sem, *]) | (refine call_of [0] [] (sa) (by simp) ?_ ?_ (by simp) (.inl rfl) ?_ ?_ ?_; (focus (simp only [go_sem, *]; done)); (focus (simp only [go_sem, *]; done)); (focus (first | (simp; done) | (simp [go_sem]; done))); (focus (first | (simp; done) | (simp [go_sem]; done))); simp only [go_sem, *]) | (refine call_of [0] [] (sb) (by simp) ?_ ?_ (by simp) (.inl rfl) ?_ ?_ ?_; (focus (simp only [go_sem, *]; done)); (focus (simp only [go_sem, *]; done)); (focus (first | (simp; done) | (simp [go_sem]; done))); (focus (first | (simp; done) | (simp [go_sem]; done))); simp only [go_sem, *])) | ((with_reducible refine Qb ?_ ?_); focus kernel_rfl) | ((with_reducible refine And.intro ?_ ?_); focus omega) | (refine contA_of hK ?_; clear hK K'; simp only [go_sem, *]) | (simp only [thenA, inBlockA, go_sem, *]))
   all_goals first | contradiction | skip
   refine ⟨[.agg [iV 7, iV s, iV o, iV a.number, iV a.letter, iV b.number, iV b.letter]], [some 0], [], ⟨by simp only [resOne, go_sem], trivial⟩, ?_⟩
   simp only [go_sem, zeroPlate, *]
 rw [if_neg k7]
 have k7' : (k == 7) = false := by rw [beq_eq_false_iff_ne]; exact k7
 by_cases k56 : k = 5 ∨ k = 6
 ·rw [if_pos k56]
  simp only
  have sa := sp_plateOf d2 (rowAt p (s : Int)) hl2 (by omega)
  generalize somePlate d2 (rowAt p (s : Int)) = A at *
  obtain ⟨a, d4⟩ := A
  simp only at sa ⊢
  rcases k56 with k5 | k6
  ·subst k5
   clear k4 k7
   refine spec_body Tryz.func23 rfl (fun E hE => ?_); simp only [go_sem, Tryz.ntmps23]
   repeat' (first | (with_reducible (show runOps ..); first | (refine Qr rfl ?_; try intro K' hK; try simp only [go_sem, *])) | (with_reducible (show Hold ..); first | refine Qh rfl ?_ | refine s_draw rfl Tryz.mixed (by kernel_rfl) ?_ | (refine s_cond rfl ⟨_, rfl, fun hb => ?_, fun hb => ?_⟩ <;> (have hc := hb; try simp only [go_sem] at hc)) | refine s_ret rfl ?_) | (with_reducible (show callA ..); first | (refine call_of [0] [] (s1) (by simp) ?_ ?_ (by simp) (.inl rfl) ?_ ?_ ?_; (focus (simp only [go_sem, *]; done)); (focus (simp only [go_sem, *]; done)); (focus (first | (simp; done) | (simp [go_sem]; done))); (focus (first | (simp; done) | (simp [go_sem]; done))); simp only [go_sem, *]) | (refine call_of [0] [] (s2) (by simp) ?_ ?_ (by simp) (.inl rfl) ?_ ?_ ?_; (focus (simp only [go_sem, *]; done)); (focus (simp only [go_sem, *]; done)); (focus (first | (simp; done) | (simp [go_sem]; done))); (focus (first | (simp; done) | (simp [go_sem]; done))); simp only [go_sem, *]) | (refine call_of [0] [] (sa) (by simp) ?_ ?_ (by simp) (.inl rfl) ?_ ?_ ?_; (focus (simp only [go_sem, *]; done)); (focus (simp only [go_sem, *]; done)); (focus (first | (simp; done) | (simp [go_sem]; done))); (focus (first | (simp; done) | (simp [go_sem]; done))); simp only [go_sem, *])) | ((with_reducible refine Qb ?_ ?_); focus kernel_rfl) | ((with_reducible refine And.intro ?_ ?_); focus omega) | (refine contA_of hK ?_; clear hK K'; simp only [go_sem, *]) | (simp only [thenA, inBlockA, go_sem, *]))
   all_goals first | contradiction | skip
   refine ⟨[.agg [iV 5, iV s, iV 0, iV a.number, iV a.letter, iV 0, iV 0]], [some 0], [], ⟨by simp only [resOne, go_sem], trivial⟩, ?_⟩
   simp only [go_sem, zeroPlate, *]
  ·subst k6
   clear k4 k7
   refine spec_body Tryz.func23 rfl (fun E hE => ?_); simp only [go_sem, Tryz.ntmps23]
   repeat' (first | (with_reducible (show runOps ..); first | (refine Qr rfl ?_; try intro K' hK; try simp only [go_sem, *])) | (with_reducible (show Hold ..); first | refine Qh rfl ?_ | refine s_draw rfl Tryz.mixed (by kernel_rfl) ?_ | (refine s_cond rfl ⟨_, rfl, fun hb => ?_, fun hb => ?_⟩ <;> (have hc := hb; try simp only [go_sem] at hc)) | refine s_ret rfl ?_) | (with_reducible (show callA ..); first | (refine call_of [0] [] (s1) (by simp) ?_ ?_ (by simp) (.inl rfl) ?_ ?_ ?_; (focus (simp only [go_sem, *]; done)); (focus (simp only [go_sem, *]; done)); (focus (first | (simp; done) | (simp [go_sem]; done))); (focus (first | (simp; done) | (simp [go_sem]; done))); simp only [go_sem, *]) | (refine call_of [0] [] (s2) (by simp) ?_ ?_ (by simp) (.inl rfl) ?_ ?_ ?_; (focus (simp only [go_sem, *]; done)); (focus (simp only [go_sem, *]; done)); (focus (first | (simp; done) | (simp [go_sem]; done))); (focus (first | (simp; done) | (simp [go_sem]; done))); simp only [go_sem, *]) | (refine call_of [0] [] (sa) (by simp) ?_ ?_ (by simp) (.inl rfl) ?_ ?_ ?_; (focus (simp only [go_sem, *]; done)); (focus (simp only [go_sem, *]; done)); (focus (first | (simp; done) | (simp [go_sem]; done))); (focus (first | (simp; done) | (simp [go_sem]; done))); simp only [go_sem, *])) | ((with_reducible refine Qb ?_ ?_); focus kernel_rfl) | ((with_reducible refine And.intro ?_ ?_); focus omega) | (refine contA_of hK ?_; clear hK K'; simp only [go_sem, *]) | (simp only [thenA, inBlockA, go_sem, *]))
   all_goals first | contradiction | skip
   refine ⟨[.agg [iV 6, iV s, iV 0, iV a.number, iV a.letter, iV 0, iV 0]], [some 0], [], ⟨by simp only [resOne, go_sem], trivial⟩, ?_⟩
   simp only [go_sem, zeroPlate, *]
 ·rw [if_neg k56]
  have k5' : (k == 5) = false := by rw [beq_eq_false_iff_ne]; omega
  have k6' : (k == 6) = false := by rw [beq_eq_false_iff_ne]; omega
  clear k4 k7 k56
  refine spec_body Tryz.func23 rfl (fun E hE => ?_); simp only [go_sem, Tryz.ntmps23]
  repeat' (first | (with_reducible (show runOps ..); first | (refine Qr rfl ?_; try intro K' hK; try simp only [go_sem, *])) | (with_reducible (show Hold ..); first | refine Qh rfl ?_ | refine s_draw rfl Tryz.mixed (by kernel_rfl) ?_ | (refine s_cond rfl ⟨_, rfl, fun hb => ?_, fun hb => ?_⟩ <;> (have hc := hb; try simp only [go_sem] at hc)) | refine s_ret rfl ?_) | (with_reducible (show callA ..); first | (refine call_of [0] [] (s1) (by simp) ?_ ?_ (by simp) (.inl rfl) ?_ ?_ ?_; (focus (simp only [go_sem, *]; done)); (focus (simp only [go_sem, *]; done)); (focus (first | (simp; done) | (simp [go_sem]; done))); (focus (first | (simp; done) | (simp [go_sem]; done))); simp only [go_sem, *]) | (refine call_of [0] [] (s2) (by simp) ?_ ?_ (by simp) (.inl rfl) ?_ ?_ ?_; (focus (simp only [go_sem, *]; done)); (focus (simp only [go_sem, *]; done)); (focus (first | (simp; done) | (simp [go_sem]; done))); (focus (first | (simp; done) | (simp [go_sem]; done))); simp only [go_sem, *])) | ((with_reducible refine Qb ?_ ?_); focus kernel_rfl) | ((with_reducible refine And.intro ?_ ?_); focus omega) | (refine contA_of hK ?_; clear hK K'; simp only [go_sem, *]) | (simp only [thenA, inBlockA, go_sem, *]))
  all_goals first | contradiction | skip
  refine ⟨[.agg [iV k, iV s, iV 0, iV 0, iV 0, iV 0, iV 0]], [some 0], [], ⟨by simp only [resOne, go_sem], trivial⟩, ?_⟩
  simp only [go_sem, zeroPlate, *]
end Go.Abs

namespace Go.Abs
open Go Go.Proofs
set_option maxRecDepth 10000
set_option maxHeartbeats 4000000
def AtH (x : House) (acc : List House) (j : Nat) : Prop := ∀ m, m < j → (acc.getD m default).lt x = true
theorem AtH.next {x : House} {acc : List House} {j : Nat} (h : AtH x acc j) (hx : (acc.getD j default).lt x = true) : AtH x acc (j + 1) := fun m hm => by
 rcases Nat.lt_succ_iff_lt_or_eq.1 hm with h1 | rfl
 ·exact h m h1
 ·exact hx
def SoP (l : List House) (i : Nat) (acc R : List House) : Prop := (l.drop i).foldl (fun out x => insH x out) acc = R ∧ acc.length ≤ i
theorem SoP.next {l : List House} {i : Nat} {acc R : List House} (h : SoP l i acc R) (hi : i < l.length) : SoP l (i + 1) (insH (l.getD i default) acc) R := by
 obtain ⟨h1, h2⟩ := h
 rw [drop_cons hi, List.foldl_cons] at h1
 exact ⟨h1, by have := insH_len (x := l.getD i default) (l := acc); omega⟩
theorem sp_rSorted (l : List House) (hl : l.length ≤ 4294967296) : Spec Tryz.prog 64 [.list (l.map House.enc)] [] (.list ((sortH l).map House.enc)) [] := by
 have h0 : SoP l 0 [] (sortH l) := ⟨rfl, by simp⟩
 generalize sortH l = R at *
 refine spec_body Tryz.func64 rfl (fun E hE => ?_); simp only [go_sem, Tryz.ntmps64]
 repeat' (first | (with_reducible (show runOps ..); first | (refine Qr rfl ?_; try intro K' hK; try simp only [go_sem, *]) | (refine Qi rfl rfl rfl rfl (fun hb K' hK => ?_) (fun hb => ?_) <;> (have hc := hb; try simp only [go_sem] at hc; simp only [go_sem, *]))) | (with_reducible (show Hold ..); first | refine Qh rfl ?_ | refine s_draw rfl Tryz.mixed (by kernel_rfl) ?_ | (refine s_cond rfl ⟨_, rfl, fun hb => ?_, fun hb => ?_⟩ <;> (have hc := hb; try simp only [go_sem] at hc)) | refine s_ret rfl ?_) | ((with_reducible refine Qb ?_ ?_); focus kernel_rfl) | ((with_reducible refine And.intro ?_ ?_); focus omega) | (refine contA_of hK ?_; clear hK K'; simp only [go_sem, *]) | (simp only [thenA, inBlockA, go_sem, *]))
 refine s_loop rfl (fun zn zN zenv zAs => ∃ (i : Nat) (acc : List House), zn = (l.length) - i ∧ i ≤ (l.length) ∧ (SoP l i acc R) ∧ zN = 60 ∧ zenv = [(4, iV i), (3, .own 0 3 0 acc.length), (0, .list (l.map House.enc))] ∧ zAs = [.row 3 (acc.map House.enc)]) (l.length) ⟨[none], [], _, _, _, (by (simp only [Weak, go_sem, List.map_append, List.map_set, *] <;> (try simp (disch := omega) only [wrap_succ]) <;> (try simp) <;> (try omega))), 0, [], (by simp), (by simp), (by exact h0), rfl, rfl, rfl⟩ ?_; rintro _ _ _ _ ⟨i, acc, rfl, hi, hP, rfl, rfl, rfl⟩
 clear h0
 by_cases hi2 : i < l.length
 ·have hnx := hP.next hi2
  have hal := hP.2
  clear hP
  repeat' (first | (with_reducible (show runOps ..); first | (refine Qr rfl ?_; try intro K' hK; try simp only [go_sem, *]) | (refine Qi rfl rfl rfl rfl (fun hb K' hK => ?_) (fun hb => ?_) <;> (have hc := hb; try simp only [go_sem] at hc; simp only [go_sem, *]))) | (with_reducible (show Hold ..); first | refine Qh rfl ?_ | refine s_draw rfl Tryz.mixed (by kernel_rfl) ?_ | (refine s_cond rfl ⟨_, rfl, fun hb => ?_, fun hb => ?_⟩ <;> (have hc := hb; try simp only [go_sem] at hc)) | refine s_ret rfl ?_) | ((with_reducible refine Qb ?_ ?_); focus kernel_rfl) | ((with_reducible refine And.intro ?_ ?_); focus omega) | (refine contA_of hK ?_; clear hK K'; simp only [go_sem, *]) | (simp only [thenA, inBlockA, go_sem, *]))
  generalize hx : l.getD i default = x at *
  have hxl : ∀ d, (l.map House.enc).getD i d = x.enc := fun d => by rw [← hx]; exact getD_map_lt hi2
  refine s_loop rfl (fun zn zN zenv zAs => ∃ (j : Nat), zn = (acc.length) - j ∧ j ≤ (acc.length) ∧ (AtH x acc j) ∧ zN = 60 ∧ zenv = [(5, iV j), (4, iV i), (3, .own 0 3 0 acc.length), (0, .list (l.map House.enc))] ∧ zAs = [.row 3 (acc.map House.enc)]) (acc.length) ⟨[some 0], [], _, _, _, (by (simp only [Weak, go_sem, List.map_append, List.map_set, *] <;> (try simp (disch := omega) only [wrap_succ]) <;> (try simp) <;> (try omega))), 0, (by simp), (by simp), (by exact fun m hm => absurd hm (by omega)), rfl, rfl, rfl⟩ ?_; rintro _ _ _ _ ⟨j, rfl, hj, hJ, rfl, rfl, rfl⟩
  have hmn : min j acc.length = j := by omega
  have hl2 : j + (acc.length - j + 1) = j + 1 + (acc.length - j) := by omega
  have hdl2 : (List.drop j (List.map House.enc acc)).length = acc.length - j := by simp
  have htd : List.take (acc.length - j) (List.drop j (List.map House.enc acc)) = List.drop j (List.map House.enc acc) := List.take_of_length_le (by simp)
  by_cases hj2 : j < acc.length
  ·have sb := sp_Ahead (acc.getD j default) x
   by_cases hlt : (acc.getD j default).lt x = true
   ·rw [hlt] at sb
    repeat' (first | (with_reducible (show runOps ..); first | (refine Qr rfl ?_; try intro K' hK; try simp only [go_sem, *]) | (refine Qi rfl rfl rfl rfl (fun hb K' hK => ?_) (fun hb => ?_) <;> (have hc := hb; try simp only [go_sem] at hc; simp only [go_sem, *]))) | (with_reducible (show Hold ..); first | refine Qh rfl ?_ | refine s_draw rfl Tryz.mixed (by kernel_rfl) ?_ | (refine s_cond rfl ⟨_, rfl, fun hb => ?_, fun hb => ?_⟩ <;> (have hc := hb; try simp only [go_sem] at hc)) | refine s_ret rfl ?_) | (with_reducible (show callA ..); first | (refine call_s (sb) ?_ ?_; (focus (simp only [go_sem, *]; done)); simp only [go_sem, *])) | ((with_reducible refine Qb ?_ ?_); focus kernel_rfl) | ((with_reducible refine And.intro ?_ ?_); focus omega) | (refine contA_of hK ?_; clear hK K'; simp only [go_sem, *]) | (simp only [thenA, inBlockA, go_sem, *]))
    all_goals first | contradiction | skip
    refine ⟨_, (by omega), [some 0], [], _, _, _, (by (simp only [Weak, go_sem, List.map_append, List.map_set, *] <;> (try simp (disch := omega) only [wrap_succ]) <;> (try simp) <;> (try omega))), j + 1, rfl, (by omega), (by exact hJ.next hlt), rfl, rfl, rfl⟩
   ·rw [Bool.not_eq_true] at hlt
    rw [hlt] at sb
    have hin := insH_at (by omega) hJ (fun _ => hlt)
    by_cases heq : acc.getD j default = x
    ·rw [if_pos ⟨hj2, heq⟩] at hin
     rw [hin] at hnx
     clear hin
     have hne : (decide (acc.getD j default = x)) = true := by simpa using heq
     clear heq
     repeat' (first | (with_reducible (show runOps ..); first | (refine Qr rfl ?_; try intro K' hK; try simp only [go_sem, *]) | (refine Qi rfl rfl rfl rfl (fun hb K' hK => ?_) (fun hb => ?_) <;> (have hc := hb; try simp only [go_sem] at hc; simp only [go_sem, *]))) | (with_reducible (show Hold ..); first | refine Qh rfl ?_ | refine s_draw rfl Tryz.mixed (by kernel_rfl) ?_ | (refine s_cond rfl ⟨_, rfl, fun hb => ?_, fun hb => ?_⟩ <;> (have hc := hb; try simp only [go_sem] at hc)) | refine s_ret rfl ?_) | (with_reducible (show (∀ _ : AV, _ → _) ∧ _); refine And.intro ?_ ?_; (focus (intro y hy; first | (obtain ⟨z, _, rfl⟩ := List.mem_map.1 (hy); simp [go_sem]; done) | (obtain ⟨z, _, rfl⟩ := List.mem_map.1 (List.mem_of_mem_take hy); simp [go_sem]; done) | (obtain ⟨z, _, rfl⟩ := List.mem_map.1 (List.mem_of_mem_drop hy); simp [go_sem]; done) | (obtain ⟨z, _, rfl⟩ := List.mem_map.1 (List.mem_of_mem_drop (List.mem_of_mem_take hy)); simp [go_sem]; done)))) | (with_reducible (show callA ..); first | (refine call_s (sb) ?_ ?_; (focus (simp only [go_sem, *]; done)); simp only [go_sem, *])) | ((with_reducible refine Qb ?_ ?_); focus kernel_rfl) | ((with_reducible refine And.intro ?_ ?_); focus omega) | (refine contA_of hK ?_; clear hK K'; simp only [go_sem, *]) | (simp only [thenA, inBlockA, go_sem, *]))
     all_goals first | contradiction | skip
     refine ⟨_, (by omega), [some 0], [], _, _, _, (by (simp only [Weak, go_sem, List.map_append, List.map_set, *] <;> (try simp (disch := omega) only [wrap_succ]) <;> (try simp) <;> (try omega))), i + 1, acc, rfl, (by omega), (by exact hnx), rfl, rfl, rfl⟩
    ·rw [if_neg (fun h => heq h.2)] at hin
     rw [hin] at hnx
     clear hin
     have hne : (decide (acc.getD j default = x)) = false := by simpa using heq
     clear heq
     repeat' (first | (with_reducible (show runOps ..); first | (refine Qr rfl ?_; try intro K' hK; try simp only [go_sem, *]) | (refine Qi rfl rfl rfl rfl (fun hb K' hK => ?_) (fun hb => ?_) <;> (have hc := hb; try simp only [go_sem] at hc; simp only [go_sem, *]))) | (with_reducible (show Hold ..); first | refine Qh rfl ?_ | refine s_draw rfl Tryz.mixed (by kernel_rfl) ?_ | (refine s_cond rfl ⟨_, rfl, fun hb => ?_, fun hb => ?_⟩ <;> (have hc := hb; try simp only [go_sem] at hc)) | refine s_ret rfl ?_) | (with_reducible (show (∀ _ : AV, _ → _) ∧ _); refine And.intro ?_ ?_; (focus (intro y hy; first | (obtain ⟨z, _, rfl⟩ := List.mem_map.1 (hy); simp [go_sem]; done) | (obtain ⟨z, _, rfl⟩ := List.mem_map.1 (List.mem_of_mem_take hy); simp [go_sem]; done) | (obtain ⟨z, _, rfl⟩ := List.mem_map.1 (List.mem_of_mem_drop hy); simp [go_sem]; done) | (obtain ⟨z, _, rfl⟩ := List.mem_map.1 (List.mem_of_mem_drop (List.mem_of_mem_take hy)); simp [go_sem]; done)))) | (with_reducible (show callA ..); first | (refine call_s (sb) ?_ ?_; (focus (simp only [go_sem, *]; done)); simp only [go_sem, *])) | ((with_reducible refine Qb ?_ ?_); focus kernel_rfl) | ((with_reducible refine And.intro ?_ ?_); focus omega) | (refine contA_of hK ?_; clear hK K'; simp only [go_sem, *]) | (simp only [thenA, inBlockA, go_sem, *]))
     all_goals first | contradiction | skip
     refine ⟨_, (by omega), [some 5], [], _, _, _, (by (simp only [Weak, go_sem, List.map_append, List.map_set, *] <;> (try simp (disch := omega) only [wrap_succ]) <;> (try simp) <;> (try omega))), i + 1, acc.take j ++ x :: acc.drop j, rfl, (by omega), (by exact hnx), rfl, rfl, rfl⟩
  ·have hin := insH_at (x := x) (l := acc) (k := j) (by omega) hJ (fun h => absurd h hj2)
   rw [if_neg (fun h => hj2 h.1)] at hin
   rw [hin] at hnx
   clear hin
   repeat' (first | (with_reducible (show runOps ..); first | (refine Qr rfl ?_; try intro K' hK; try simp only [go_sem, *]) | (refine Qi rfl rfl rfl rfl (fun hb K' hK => ?_) (fun hb => ?_) <;> (have hc := hb; try simp only [go_sem] at hc; simp only [go_sem, *]))) | (with_reducible (show Hold ..); first | refine Qh rfl ?_ | refine s_draw rfl Tryz.mixed (by kernel_rfl) ?_ | (refine s_cond rfl ⟨_, rfl, fun hb => ?_, fun hb => ?_⟩ <;> (have hc := hb; try simp only [go_sem] at hc)) | refine s_ret rfl ?_) | (with_reducible (show (∀ _ : AV, _ → _) ∧ _); refine And.intro ?_ ?_; (focus (intro y hy; first | (obtain ⟨z, _, rfl⟩ := List.mem_map.1 (hy); simp [go_sem]; done) | (obtain ⟨z, _, rfl⟩ := List.mem_map.1 (List.mem_of_mem_take hy); simp [go_sem]; done) | (obtain ⟨z, _, rfl⟩ := List.mem_map.1 (List.mem_of_mem_drop hy); simp [go_sem]; done) | (obtain ⟨z, _, rfl⟩ := List.mem_map.1 (List.mem_of_mem_drop (List.mem_of_mem_take hy)); simp [go_sem]; done)))) | ((with_reducible refine Qb ?_ ?_); focus kernel_rfl) | ((with_reducible refine And.intro ?_ ?_); focus omega) | (refine contA_of hK ?_; clear hK K'; simp only [go_sem, *]) | (simp only [thenA, inBlockA, go_sem, *]))
   all_goals first | contradiction | skip
   refine ⟨_, (by omega), [some 5], [], _, _, _, (by (simp only [Weak, go_sem, List.map_append, List.map_set, *] <;> (try simp (disch := omega) only [wrap_succ]) <;> (try simp) <;> (try omega))), i + 1, acc.take j ++ x :: acc.drop j, rfl, (by omega), (by exact hnx), rfl, rfl, rfl⟩
 ·obtain ⟨h1, h2⟩ := hP
  rw [drop_end (by omega)] at h1
  have h3 : acc = R := h1
  subst h3
  clear h1 h2
  repeat' (first | (with_reducible (show runOps ..); first | (refine Qr rfl ?_; try intro K' hK; try simp only [go_sem, *]) | (refine Qi rfl rfl rfl rfl (fun hb K' hK => ?_) (fun hb => ?_) <;> (have hc := hb; try simp only [go_sem] at hc; simp only [go_sem, *]))) | (with_reducible (show Hold ..); first | refine Qh rfl ?_ | refine s_draw rfl Tryz.mixed (by kernel_rfl) ?_ | (refine s_cond rfl ⟨_, rfl, fun hb => ?_, fun hb => ?_⟩ <;> (have hc := hb; try simp only [go_sem] at hc)) | refine s_ret rfl ?_) | ((with_reducible refine Qb ?_ ?_); focus kernel_rfl) | ((with_reducible refine And.intro ?_ ?_); focus omega) | (refine contA_of hK ?_; clear hK K'; simp only [go_sem, *]) | (simp only [thenA, inBlockA, go_sem, *]))
  refine ⟨[_], [], [0], ⟨rfl, trivial⟩, ?_⟩
  simp only [go_sem, *]
end Go.Abs

namespace Go.Abs
open Go Go.Proofs
set_option maxRecDepth 10000
set_option maxHeartbeats 4000000
def bkt (L : List House) (i s : Nat) : List Plate := ((L.take i).filter (fun h => h.street == (s : Int))).map House.plate
theorem bkt_in {L : List House} {i s : Nat} (h : i < L.length) (e : (L.getD i default).street = (s : Int)) : bkt L (i + 1) s = bkt L i s ++ [(L.getD i default).plate] := by
 have q : ((L.getD i default).street == (s : Int)) = true := by rw [beq_iff_eq]; exact e
 unfold bkt
 rw [take_succ_getD h, List.filter_append, List.map_append, List.filter_cons, if_pos q]; rfl
theorem bkt_out {L : List House} {i s : Nat} (h : i < L.length) (e : (L.getD i default).street ≠ (s : Int)) : bkt L (i + 1) s = bkt L i s := by
 have q : ¬ ((L.getD i default).street == (s : Int)) = true := by rw [beq_iff_eq]; exact e
 unfold bkt
 rw [take_succ_getD h, List.filter_append, List.map_append, List.filter_cons, if_neg q]; simp
theorem bkt_len (L : List House) (i s : Nat) : (bkt L i s).length ≤ L.length := by
 unfold bkt; rw [List.length_map]
 exact Nat.le_trans (List.length_filter_le _ _) (by simp; omega)
theorem bkt_end {L : List House} {i s : Nat} (h : L.length ≤ i) : bkt L i s = (L.filter (fun h => h.street == (s : Int))).map House.plate := by
 unfold bkt; rw [List.take_of_length_le h]
theorem sp_rLaid1 (l : List House) (hst : ∀ z, z ∈ l → 0 ≤ z.street ∧ z.street < 1) (hl : l.length ≤ 4294967296) : Spec Tryz.prog 127 [.list (l.map House.enc), iV 1] [] (encPlan (laid l 1)) [] := by
 have rz : List.replicate 1 (AV.raw (Value.slice none 0 0)) = [AV.raw (Value.slice none 0 0)] := rfl
 have hv : IntKind.i64.wrap 1 = (1 : Int) := wrap_i64 (by omega) (by omega)
 have ss := sp_rSorted l hl
 have hsl : (sortH l).length ≤ l.length := by have := foldH_len l []; simpa [sortH] using this
 have hsm : ∀ z, z ∈ sortH l → 0 ≤ z.street ∧ z.street < 1 := fun z hz => hst z (mem_sortH.1 hz)
 have he : laid l 1 = [((sortH l).filter (fun h => h.street == ((0 : Nat) : Int))).map House.plate] := by simp [laid, List.range_succ]
 rw [he]
 clear he hst
 generalize sortH l = L at *
 have hlb := fun i s => bkt_len L i s
 have z0 : bkt L 0 0 = [] := rfl
 have z1 : bkt L 0 1 = [] := rfl
 have z2 : bkt L 0 2 = [] := rfl
 refine spec_body Tryz.func127 rfl (fun E hE => ?_); simp only [go_sem, Tryz.ntmps127]
 repeat' (first | (with_reducible (show runOps ..); first | (refine Qr rfl ?_; try intro K' hK; try simp only [go_sem, *])) | (with_reducible (show Hold ..); first | refine Qh rfl ?_ | refine s_draw rfl Tryz.mixed (by kernel_rfl) ?_ | (refine s_cond rfl ⟨_, rfl, fun hb => ?_, fun hb => ?_⟩ <;> (have hc := hb; try simp only [go_sem] at hc)) | refine s_ret rfl ?_) | (with_reducible (show callA ..); first | (refine call_s (ss) ?_ ?_; (focus (simp only [go_sem, *]; done)); simp only [go_sem, *])) | ((with_reducible refine Qb ?_ ?_); focus kernel_rfl) | ((with_reducible refine And.intro ?_ ?_); focus omega) | (refine contA_of hK ?_; clear hK K'; simp only [go_sem, *]) | (simp only [thenA, inBlockA, go_sem, *]))
 refine s_loop rfl (fun zn zN zenv zAs => ∃ (i : Nat), zn = (L.length) - i ∧ i ≤ (L.length) ∧ (NoP i) ∧ zN = 43 ∧ zenv = [(6, iV i), (5, .ptr 1 0), (4, .ptr 0 0), (0, .list (L.map House.enc))] ∧ zAs = [.box [nilV], .box [.own 2 1 0 1], .box [.own 3 2 0 (bkt L i 0).length], .row 2 ((bkt L i 0).map Plate.enc)]) (L.length) ⟨[some 0, some 2, some 1, none], [], _, _, _, (by (simp only [Weak, go_sem, List.map_append, List.map_set, *] <;> (try simp (disch := omega) only [wrap_succ]) <;> (try simp) <;> (try omega))), 0, (by simp), (by simp), (by trivial), rfl, rfl, rfl⟩ ?_; rintro _ _ _ _ ⟨i, rfl, hi, hP, rfl, rfl, rfl⟩
 have hb0 := hlb i 0
 clear hlb z0 z1 z2
 by_cases hi2 : i < L.length
 ·have hz := hsm _ (getD_mem hi2)
  rcases (by omega : (L.getD i default).street = 0) with hs0
  ·have e0 := bkt_in (s := 0) hi2 (by rw [hs0]; rfl)
   repeat' (first | (with_reducible (show runOps ..); first | (refine Qr rfl ?_; try intro K' hK; try simp only [go_sem, *])) | (with_reducible (show Hold ..); first | refine Qh rfl ?_ | refine s_draw rfl Tryz.mixed (by kernel_rfl) ?_ | (refine s_cond rfl ⟨_, rfl, fun hb => ?_, fun hb => ?_⟩ <;> (have hc := hb; try simp only [go_sem] at hc)) | refine s_ret rfl ?_) | (with_reducible (show (∀ _ : AV, _ → _) ∧ _); refine And.intro ?_ ?_; (focus (intro y hy; first | (obtain ⟨z, _, rfl⟩ := List.mem_map.1 (hy); simp [go_sem]; done) | (obtain ⟨z, _, rfl⟩ := List.mem_map.1 (List.mem_of_mem_take hy); simp [go_sem]; done) | (obtain ⟨z, _, rfl⟩ := List.mem_map.1 (List.mem_of_mem_drop hy); simp [go_sem]; done) | (obtain ⟨z, _, rfl⟩ := List.mem_map.1 (List.mem_of_mem_drop (List.mem_of_mem_take hy)); simp [go_sem]; done)))) | ((with_reducible refine Qb ?_ ?_); focus kernel_rfl) | ((with_reducible refine And.intro ?_ ?_); focus omega) | (refine contA_of hK ?_; clear hK K'; simp only [go_sem, *]) | (simp only [thenA, inBlockA, go_sem, *]))
   all_goals first | contradiction | skip
   refine ⟨_, (by omega), [some 0, some 1, some 2, some 5], [], _, _, _, (by (simp only [Weak, go_sem, List.map_append, List.map_set, *] <;> (try simp (disch := omega) only [wrap_succ]) <;> (try simp) <;> (try omega))), i + 1, rfl, (by omega), (by trivial), rfl, rfl, rfl⟩
 ·have e0 := bkt_end (L := L) (i := i) (s := 0) (by omega)
  repeat' (first | (with_reducible (show runOps ..); first | (refine Qr rfl ?_; try intro K' hK; try simp only [go_sem, *])) | (with_reducible (show Hold ..); first | refine Qh rfl ?_ | refine s_draw rfl Tryz.mixed (by kernel_rfl) ?_ | (refine s_cond rfl ⟨_, rfl, fun hb => ?_, fun hb => ?_⟩ <;> (have hc := hb; try simp only [go_sem] at hc)) | refine s_ret rfl ?_) | ((with_reducible refine Qb ?_ ?_); focus kernel_rfl) | ((with_reducible refine And.intro ?_ ?_); focus omega) | (refine contA_of hK ?_; clear hK K'; simp only [go_sem, *]) | (simp only [thenA, inBlockA, go_sem, *]))
  refine ⟨[.agg [.own 2 1 0 1]], [], [2, 3], ⟨by simp only [resOne, go_sem], trivial⟩, ?_⟩
  simp only [go_sem, *]
  try simp [List.take_of_length_le]
theorem sp_rLaid2 (l : List House) (hst : ∀ z, z ∈ l → 0 ≤ z.street ∧ z.street < 2) (hl : l.length ≤ 4294967296) : Spec Tryz.prog 127 [.list (l.map House.enc), iV 2] [] (encPlan (laid l 2)) [] := by
 have rz : List.replicate 2 (AV.raw (Value.slice none 0 0)) = [AV.raw (Value.slice none 0 0), AV.raw (Value.slice none 0 0)] := rfl
 have hv : IntKind.i64.wrap 2 = (2 : Int) := wrap_i64 (by omega) (by omega)
 have ss := sp_rSorted l hl
 have hsl : (sortH l).length ≤ l.length := by have := foldH_len l []; simpa [sortH] using this
 have hsm : ∀ z, z ∈ sortH l → 0 ≤ z.street ∧ z.street < 2 := fun z hz => hst z (mem_sortH.1 hz)
 have he : laid l 2 = [((sortH l).filter (fun h => h.street == ((0 : Nat) : Int))).map House.plate, ((sortH l).filter (fun h => h.street == ((1 : Nat) : Int))).map House.plate] := by simp [laid, List.range_succ]
 rw [he]
 clear he hst
 generalize sortH l = L at *
 have hlb := fun i s => bkt_len L i s
 have z0 : bkt L 0 0 = [] := rfl
 have z1 : bkt L 0 1 = [] := rfl
 have z2 : bkt L 0 2 = [] := rfl
 refine spec_body Tryz.func127 rfl (fun E hE => ?_); simp only [go_sem, Tryz.ntmps127]
 repeat' (first | (with_reducible (show runOps ..); first | (refine Qr rfl ?_; try intro K' hK; try simp only [go_sem, *])) | (with_reducible (show Hold ..); first | refine Qh rfl ?_ | refine s_draw rfl Tryz.mixed (by kernel_rfl) ?_ | (refine s_cond rfl ⟨_, rfl, fun hb => ?_, fun hb => ?_⟩ <;> (have hc := hb; try simp only [go_sem] at hc)) | refine s_ret rfl ?_) | (with_reducible (show callA ..); first | (refine call_s (ss) ?_ ?_; (focus (simp only [go_sem, *]; done)); simp only [go_sem, *])) | ((with_reducible refine Qb ?_ ?_); focus kernel_rfl) | ((with_reducible refine And.intro ?_ ?_); focus omega) | (refine contA_of hK ?_; clear hK K'; simp only [go_sem, *]) | (simp only [thenA, inBlockA, go_sem, *]))
 refine s_loop rfl (fun zn zN zenv zAs => ∃ (i : Nat), zn = (L.length) - i ∧ i ≤ (L.length) ∧ (NoP i) ∧ zN = 43 ∧ zenv = [(6, iV i), (5, .ptr 1 0), (4, .ptr 0 0), (0, .list (L.map House.enc))] ∧ zAs = [.box [nilV], .box [.own 2 1 0 2], .box [.own 3 2 0 (bkt L i 0).length, .own 4 2 0 (bkt L i 1).length], .row 2 ((bkt L i 0).map Plate.enc), .row 2 ((bkt L i 1).map Plate.enc)]) (L.length) ⟨[some 0, some 2, some 1, none, none], [], _, _, _, (by (simp only [Weak, go_sem, List.map_append, List.map_set, *] <;> (try simp (disch := omega) only [wrap_succ]) <;> (try simp) <;> (try omega))), 0, (by simp), (by simp), (by trivial), rfl, rfl, rfl⟩ ?_; rintro _ _ _ _ ⟨i, rfl, hi, hP, rfl, rfl, rfl⟩
 have hb0 := hlb i 0
 have hb1 := hlb i 1
 clear hlb z0 z1 z2
 by_cases hi2 : i < L.length
 ·have hz := hsm _ (getD_mem hi2)
  rcases (by omega : (L.getD i default).street = 0 ∨ (L.getD i default).street = 1) with hs0 | hs0
  ·have e0 := bkt_in (s := 0) hi2 (by rw [hs0]; rfl)
   have e1 := bkt_out (s := 1) hi2 (by rw [hs0]; decide)
   repeat' (first | (with_reducible (show runOps ..); first | (refine Qr rfl ?_; try intro K' hK; try simp only [go_sem, *])) | (with_reducible (show Hold ..); first | refine Qh rfl ?_ | refine s_draw rfl Tryz.mixed (by kernel_rfl) ?_ | (refine s_cond rfl ⟨_, rfl, fun hb => ?_, fun hb => ?_⟩ <;> (have hc := hb; try simp only [go_sem] at hc)) | refine s_ret rfl ?_) | (with_reducible (show (∀ _ : AV, _ → _) ∧ _); refine And.intro ?_ ?_; (focus (intro y hy; first | (obtain ⟨z, _, rfl⟩ := List.mem_map.1 (hy); simp [go_sem]; done) | (obtain ⟨z, _, rfl⟩ := List.mem_map.1 (List.mem_of_mem_take hy); simp [go_sem]; done) | (obtain ⟨z, _, rfl⟩ := List.mem_map.1 (List.mem_of_mem_drop hy); simp [go_sem]; done) | (obtain ⟨z, _, rfl⟩ := List.mem_map.1 (List.mem_of_mem_drop (List.mem_of_mem_take hy)); simp [go_sem]; done)))) | ((with_reducible refine Qb ?_ ?_); focus kernel_rfl) | ((with_reducible refine And.intro ?_ ?_); focus omega) | (refine contA_of hK ?_; clear hK K'; simp only [go_sem, *]) | (simp only [thenA, inBlockA, go_sem, *]))
   all_goals first | contradiction | skip
   refine ⟨_, (by omega), [some 0, some 1, some 2, some 6, some 4], [], _, _, _, (by (simp only [Weak, go_sem, List.map_append, List.map_set, *] <;> (try simp (disch := omega) only [wrap_succ]) <;> (try simp) <;> (try omega))), i + 1, rfl, (by omega), (by trivial), rfl, rfl, rfl⟩
  ·have e0 := bkt_out (s := 0) hi2 (by rw [hs0]; decide)
   have e1 := bkt_in (s := 1) hi2 (by rw [hs0]; rfl)
   repeat' (first | (with_reducible (show runOps ..); first | (refine Qr rfl ?_; try intro K' hK; try simp only [go_sem, *])) | (with_reducible (show Hold ..); first | refine Qh rfl ?_ | refine s_draw rfl Tryz.mixed (by kernel_rfl) ?_ | (refine s_cond rfl ⟨_, rfl, fun hb => ?_, fun hb => ?_⟩ <;> (have hc := hb; try simp only [go_sem] at hc)) | refine s_ret rfl ?_) | (with_reducible (show (∀ _ : AV, _ → _) ∧ _); refine And.intro ?_ ?_; (focus (intro y hy; first | (obtain ⟨z, _, rfl⟩ := List.mem_map.1 (hy); simp [go_sem]; done) | (obtain ⟨z, _, rfl⟩ := List.mem_map.1 (List.mem_of_mem_take hy); simp [go_sem]; done) | (obtain ⟨z, _, rfl⟩ := List.mem_map.1 (List.mem_of_mem_drop hy); simp [go_sem]; done) | (obtain ⟨z, _, rfl⟩ := List.mem_map.1 (List.mem_of_mem_drop (List.mem_of_mem_take hy)); simp [go_sem]; done)))) | ((with_reducible refine Qb ?_ ?_); focus kernel_rfl) | ((with_reducible refine And.intro ?_ ?_); focus omega) | (refine contA_of hK ?_; clear hK K'; simp only [go_sem, *]) | (simp only [thenA, inBlockA, go_sem, *]))
   all_goals first | contradiction | skip
   refine ⟨_, (by omega), [some 0, some 1, some 2, some 3, some 6], [], _, _, _, (by (simp only [Weak, go_sem, List.map_append, List.map_set, *] <;> (try simp (disch := omega) only [wrap_succ]) <;> (try simp) <;> (try omega))), i + 1, rfl, (by omega), (by trivial), rfl, rfl, rfl⟩
 ·have e0 := bkt_end (L := L) (i := i) (s := 0) (by omega)
  have e1 := bkt_end (L := L) (i := i) (s := 1) (by omega)
  repeat' (first | (with_reducible (show runOps ..); first | (refine Qr rfl ?_; try intro K' hK; try simp only [go_sem, *])) | (with_reducible (show Hold ..); first | refine Qh rfl ?_ | refine s_draw rfl Tryz.mixed (by kernel_rfl) ?_ | (refine s_cond rfl ⟨_, rfl, fun hb => ?_, fun hb => ?_⟩ <;> (have hc := hb; try simp only [go_sem] at hc)) | refine s_ret rfl ?_) | ((with_reducible refine Qb ?_ ?_); focus kernel_rfl) | ((with_reducible refine And.intro ?_ ?_); focus omega) | (refine contA_of hK ?_; clear hK K'; simp only [go_sem, *]) | (simp only [thenA, inBlockA, go_sem, *]))
  refine ⟨[.agg [.own 2 1 0 2]], [], [2, 3, 4], ⟨by simp only [resOne, go_sem], trivial⟩, ?_⟩
  simp only [go_sem, *]
  try simp [List.take_of_length_le]
theorem sp_rLaid3 (l : List House) (hst : ∀ z, z ∈ l → 0 ≤ z.street ∧ z.street < 3) (hl : l.length ≤ 4294967296) : Spec Tryz.prog 127 [.list (l.map House.enc), iV 3] [] (encPlan (laid l 3)) [] := by
 have rz : List.replicate 3 (AV.raw (Value.slice none 0 0)) = [AV.raw (Value.slice none 0 0), AV.raw (Value.slice none 0 0), AV.raw (Value.slice none 0 0)] := rfl
 have hv : IntKind.i64.wrap 3 = (3 : Int) := wrap_i64 (by omega) (by omega)
 have ss := sp_rSorted l hl
 have hsl : (sortH l).length ≤ l.length := by have := foldH_len l []; simpa [sortH] using this
 have hsm : ∀ z, z ∈ sortH l → 0 ≤ z.street ∧ z.street < 3 := fun z hz => hst z (mem_sortH.1 hz)
 have he : laid l 3 = [((sortH l).filter (fun h => h.street == ((0 : Nat) : Int))).map House.plate, ((sortH l).filter (fun h => h.street == ((1 : Nat) : Int))).map House.plate, ((sortH l).filter (fun h => h.street == ((2 : Nat) : Int))).map House.plate] := by simp [laid, List.range_succ]
 rw [he]
 clear he hst
 generalize sortH l = L at *
 have hlb := fun i s => bkt_len L i s
 have z0 : bkt L 0 0 = [] := rfl
 have z1 : bkt L 0 1 = [] := rfl
 have z2 : bkt L 0 2 = [] := rfl
 refine spec_body Tryz.func127 rfl (fun E hE => ?_); simp only [go_sem, Tryz.ntmps127]
 repeat' (first | (with_reducible (show runOps ..); first | (refine Qr rfl ?_; try intro K' hK; try simp only [go_sem, *])) | (with_reducible (show Hold ..); first | refine Qh rfl ?_ | refine s_draw rfl Tryz.mixed (by kernel_rfl) ?_ | (refine s_cond rfl ⟨_, rfl, fun hb => ?_, fun hb => ?_⟩ <;> (have hc := hb; try simp only [go_sem] at hc)) | refine s_ret rfl ?_) | (with_reducible (show callA ..); first | (refine call_s (ss) ?_ ?_; (focus (simp only [go_sem, *]; done)); simp only [go_sem, *])) | ((with_reducible refine Qb ?_ ?_); focus kernel_rfl) | ((with_reducible refine And.intro ?_ ?_); focus omega) | (refine contA_of hK ?_; clear hK K'; simp only [go_sem, *]) | (simp only [thenA, inBlockA, go_sem, *]))
 refine s_loop rfl (fun zn zN zenv zAs => ∃ (i : Nat), zn = (L.length) - i ∧ i ≤ (L.length) ∧ (NoP i) ∧ zN = 43 ∧ zenv = [(6, iV i), (5, .ptr 1 0), (4, .ptr 0 0), (0, .list (L.map House.enc))] ∧ zAs = [.box [nilV], .box [.own 2 1 0 3], .box [.own 3 2 0 (bkt L i 0).length, .own 4 2 0 (bkt L i 1).length, .own 5 2 0 (bkt L i 2).length], .row 2 ((bkt L i 0).map Plate.enc), .row 2 ((bkt L i 1).map Plate.enc), .row 2 ((bkt L i 2).map Plate.enc)]) (L.length) ⟨[some 0, some 2, some 1, none, none, none], [], _, _, _, (by (simp only [Weak, go_sem, List.map_append, List.map_set, *] <;> (try simp (disch := omega) only [wrap_succ]) <;> (try simp) <;> (try omega))), 0, (by simp), (by simp), (by trivial), rfl, rfl, rfl⟩ ?_; rintro _ _ _ _ ⟨i, rfl, hi, hP, rfl, rfl, rfl⟩
 have hb0 := hlb i 0
 have hb1 := hlb i 1
 have hb2 := hlb i 2
 clear hlb z0 z1 z2
 by_cases hi2 : i < L.length
 ·have hz := hsm _ (getD_mem hi2)
  rcases (by omega : (L.getD i default).street = 0 ∨ (L.getD i default).street = 1 ∨ (L.getD i default).street = 2) with hs0 | hs0 | hs0
  ·have e0 := bkt_in (s := 0) hi2 (by rw [hs0]; rfl)
   have e1 := bkt_out (s := 1) hi2 (by rw [hs0]; decide)
   have e2 := bkt_out (s := 2) hi2 (by rw [hs0]; decide)
   repeat' (first | (with_reducible (show runOps ..); first | (refine Qr rfl ?_; try intro K' hK; try simp only [go_sem, *])) | (with_reducible (show Hold ..); first | refine Qh rfl ?_ | refine s_draw rfl Tryz.mixed (by kernel_rfl) ?_ | (refine s_cond rfl ⟨_, rfl, fun hb => ?_, fun hb => ?_⟩ <;> (have hc := hb; try simp only [go_sem] at hc)) | refine s_ret rfl ?_) | (with_reducible (show (∀ _ : AV, _ → _) ∧ _); refine And.intro ?_ ?_; (focus (intro y hy; first | (obtain ⟨z, _, rfl⟩ := List.mem_map.1 (hy); simp [go_sem]; done) | (obtain ⟨z, _, rfl⟩ := List.mem_map.1 (List.mem_of_mem_take hy); simp [go_sem]; done) | (obtain ⟨z, _, rfl⟩ := List.mem_map.1 (List.mem_of_mem_drop hy); simp [go_sem]; done) | (obtain ⟨z, _, rfl⟩ := List.mem_map.1 (List.mem_of_mem_drop (List.mem_of_mem_take hy)); simp [go_sem]; done)))) | ((with_reducible refine Qb ?_ ?_); focus kernel_rfl) | ((with_reducible refine And.intro ?_ ?_); focus omega) | (refine contA_of hK ?_; clear hK K'; simp only [go_sem, *]) | (simp only [thenA, inBlockA, go_sem, *]))
   all_goals first | contradiction | skip
   refine ⟨_, (by omega), [some 0, some 1, some 2, some 7, some 4, some 5], [], _, _, _, (by (simp only [Weak, go_sem, List.map_append, List.map_set, *] <;> (try simp (disch := omega) only [wrap_succ]) <;> (try simp) <;> (try omega))), i + 1, rfl, (by omega), (by trivial), rfl, rfl, rfl⟩
  ·have e0 := bkt_out (s := 0) hi2 (by rw [hs0]; decide)
   have e1 := bkt_in (s := 1) hi2 (by rw [hs0]; rfl)
   have e2 := bkt_out (s := 2) hi2 (by rw [hs0]; decide)
   repeat' (first | (with_reducible (show runOps ..); first | (refine Qr rfl ?_; try intro K' hK; try simp only [go_sem, *])) | (with_reducible (show Hold ..); first | refine Qh rfl ?_ | refine s_draw rfl Tryz.mixed (by kernel_rfl) ?_ | (refine s_cond rfl ⟨_, rfl, fun hb => ?_, fun hb => ?_⟩ <;> (have hc := hb; try simp only [go_sem] at hc)) | refine s_ret rfl ?_) | (with_reducible (show (∀ _ : AV, _ → _) ∧ _); refine And.intro ?_ ?_; (focus (intro y hy; first | (obtain ⟨z, _, rfl⟩ := List.mem_map.1 (hy); simp [go_sem]; done) | (obtain ⟨z, _, rfl⟩ := List.mem_map.1 (List.mem_of_mem_take hy); simp [go_sem]; done) | (obtain ⟨z, _, rfl⟩ := List.mem_map.1 (List.mem_of_mem_drop hy); simp [go_sem]; done) | (obtain ⟨z, _, rfl⟩ := List.mem_map.1 (List.mem_of_mem_drop (List.mem_of_mem_take hy)); simp [go_sem]; done)))) | ((with_reducible refine Qb ?_ ?_); focus kernel_rfl) | ((with_reducible refine And.intro ?_ ?_); focus omega) | (refine contA_of hK ?_; clear hK K'; simp only [go_sem, *]) | (simp only [thenA, inBlockA, go_sem, *]))
   all_goals first | contradiction | skip
   refine ⟨_, (by omega), [some 0, some 1, some 2, some 3, some 7, some 5], [], _, _, _, (by (simp only [Weak, go_sem, List.map_append, List.map_set, *] <;> (try simp (disch := omega) only [wrap_succ]) <;> (try simp) <;> (try omega))), i + 1, rfl, (by omega), (by trivial), rfl, rfl, rfl⟩
  ·have e0 := bkt_out (s := 0) hi2 (by rw [hs0]; decide)
   have e1 := bkt_out (s := 1) hi2 (by rw [hs0]; decide)
   have e2 := bkt_in (s := 2) hi2 (by rw [hs0]; rfl)
   repeat' (first | (with_reducible (show runOps ..); first | (refine Qr rfl ?_; try intro K' hK; try simp only [go_sem, *])) | (with_reducible (show Hold ..); first | refine Qh rfl ?_ | refine s_draw rfl Tryz.mixed (by kernel_rfl) ?_ | (refine s_cond rfl ⟨_, rfl, fun hb => ?_, fun hb => ?_⟩ <;> (have hc := hb; try simp only [go_sem] at hc)) | refine s_ret rfl ?_) | (with_reducible (show (∀ _ : AV, _ → _) ∧ _); refine And.intro ?_ ?_; (focus (intro y hy; first | (obtain ⟨z, _, rfl⟩ := List.mem_map.1 (hy); simp [go_sem]; done) | (obtain ⟨z, _, rfl⟩ := List.mem_map.1 (List.mem_of_mem_take hy); simp [go_sem]; done) | (obtain ⟨z, _, rfl⟩ := List.mem_map.1 (List.mem_of_mem_drop hy); simp [go_sem]; done) | (obtain ⟨z, _, rfl⟩ := List.mem_map.1 (List.mem_of_mem_drop (List.mem_of_mem_take hy)); simp [go_sem]; done)))) | ((with_reducible refine Qb ?_ ?_); focus kernel_rfl) | ((with_reducible refine And.intro ?_ ?_); focus omega) | (refine contA_of hK ?_; clear hK K'; simp only [go_sem, *]) | (simp only [thenA, inBlockA, go_sem, *]))
   all_goals first | contradiction | skip
   refine ⟨_, (by omega), [some 0, some 1, some 2, some 3, some 4, some 7], [], _, _, _, (by (simp only [Weak, go_sem, List.map_append, List.map_set, *] <;> (try simp (disch := omega) only [wrap_succ]) <;> (try simp) <;> (try omega))), i + 1, rfl, (by omega), (by trivial), rfl, rfl, rfl⟩
 ·have e0 := bkt_end (L := L) (i := i) (s := 0) (by omega)
  have e1 := bkt_end (L := L) (i := i) (s := 1) (by omega)
  have e2 := bkt_end (L := L) (i := i) (s := 2) (by omega)
  repeat' (first | (with_reducible (show runOps ..); first | (refine Qr rfl ?_; try intro K' hK; try simp only [go_sem, *])) | (with_reducible (show Hold ..); first | refine Qh rfl ?_ | refine s_draw rfl Tryz.mixed (by kernel_rfl) ?_ | (refine s_cond rfl ⟨_, rfl, fun hb => ?_, fun hb => ?_⟩ <;> (have hc := hb; try simp only [go_sem] at hc)) | refine s_ret rfl ?_) | ((with_reducible refine Qb ?_ ?_); focus kernel_rfl) | ((with_reducible refine And.intro ?_ ?_); focus omega) | (refine contA_of hK ?_; clear hK K'; simp only [go_sem, *]) | (simp only [thenA, inBlockA, go_sem, *]))
  refine ⟨[.agg [.own 2 1 0 3]], [], [2, 3, 4, 5], ⟨by simp only [resOne, go_sem], trivial⟩, ?_⟩
  simp only [go_sem, *]
  try simp [List.take_of_length_le]
end Go.Abs

namespace Go.Abs
open Go Go.Proofs
set_option maxRecDepth 10000
set_option maxHeartbeats 4000000
theorem named_kind (p : Plan) (c : Change) (hp : p.length ≤ 4294967296) (h1 : betw c.kind 1 7 = false) : Spec Tryz.prog 132 [encPlan p, c.enc] [] (.tup [iV 8, .agg [iV c.kind, iV c.street, iV 0, iV 0, iV 0, iV 0, iV 0]]) [] := by
 have hw : IntKind.i64.wrap ((p.length : Int) - 1) = (p.length : Int) - 1 := wrap_i64 (by omega) (by omega)
 have s1 := sp_within c.kind 1 7
 rw [h1] at s1
 refine spec_body Tryz.func132 rfl (fun E hE => ?_); simp only [go_sem, Tryz.ntmps132]
 repeat' (first | (with_reducible (show runOps ..); first | (refine Qr rfl ?_; try intro K' hK; try simp only [go_sem, *])) | (with_reducible (show Hold ..); first | refine Qh rfl ?_ | refine s_draw rfl Tryz.mixed (by kernel_rfl) ?_ | (refine s_cond rfl ⟨_, rfl, fun hb => ?_, fun hb => ?_⟩ <;> (have hc := hb; try simp only [go_sem] at hc)) | refine s_ret rfl ?_) | (with_reducible (show callA ..); first | (refine call_s (s1) ?_ ?_; (focus (simp only [go_sem, *]; done)); simp only [go_sem, *])) | ((with_reducible refine Qb ?_ ?_); focus kernel_rfl) | ((with_reducible refine And.intro ?_ ?_); focus omega) | (refine contA_of hK ?_; clear hK K'; simp only [go_sem, *]) | (simp only [thenA, inBlockA, go_sem, *]))
 all_goals first | contradiction | skip
 refine ⟨[iV 8, .agg [iV c.kind, iV c.street, iV 0, iV 0, iV 0, iV 0, iV 0]], [], [], ⟨rfl, by simp only [resOne, go_sem], trivial⟩, ?_⟩
 simp only [go_sem, *]
theorem named_street (p : Plan) (c : Change) (hp : p.length ≤ 4294967296) (h1 : betw c.kind 1 7 = true) (h2 : betw c.street 0 ((p.length : Int) - 1) = false) : Spec Tryz.prog 132 [encPlan p, c.enc] [] (.tup [iV 3, .agg [iV c.kind, iV c.street, iV 0, iV 0, iV 0, iV 0, iV 0]]) [] := by
 have hw : IntKind.i64.wrap ((p.length : Int) - 1) = (p.length : Int) - 1 := wrap_i64 (by omega) (by omega)
 have s1 := sp_within c.kind 1 7
 rw [h1] at s1
 have s2 := sp_within c.street 0 ((p.length : Int) - 1)
 rw [h2] at s2
 refine spec_body Tryz.func132 rfl (fun E hE => ?_); simp only [go_sem, Tryz.ntmps132]
 repeat' (first | (with_reducible (show runOps ..); first | (refine Qr rfl ?_; try intro K' hK; try simp only [go_sem, *])) | (with_reducible (show Hold ..); first | refine Qh rfl ?_ | refine s_draw rfl Tryz.mixed (by kernel_rfl) ?_ | (refine s_cond rfl ⟨_, rfl, fun hb => ?_, fun hb => ?_⟩ <;> (have hc := hb; try simp only [go_sem] at hc)) | refine s_ret rfl ?_) | (with_reducible (show callA ..); first | ((first | refine call_s (s1) ?_ ?_ | refine call_s (s2) ?_ ?_); (focus (simp only [go_sem, *]; done)); simp only [go_sem, *])) | ((with_reducible refine Qb ?_ ?_); focus kernel_rfl) | ((with_reducible refine And.intro ?_ ?_); focus omega) | (refine contA_of hK ?_; clear hK K'; simp only [go_sem, *]) | (simp only [thenA, inBlockA, go_sem, *]))
 all_goals first | contradiction | skip
 refine ⟨[iV 3, .agg [iV c.kind, iV c.street, iV 0, iV 0, iV 0, iV 0, iV 0]], [], [], ⟨rfl, by simp only [resOne, go_sem], trivial⟩, ?_⟩
 simp only [go_sem, *]
theorem named_out4 (p : Plan) (c : Change) (hp : p.length ≤ 4294967296) (h1 : betw c.kind 1 7 = true) (h2 : betw c.street 0 ((p.length : Int) - 1) = true) (k4 : (c.kind == 4) = true) (k5 : (c.kind == 5) = false) (k6 : (c.kind == 6) = false) (k7 : (c.kind == 7) = false) (h3 : betw c.other 0 ((p.length : Int) - 1) = false) : Spec Tryz.prog 132 [encPlan p, c.enc] [] (.tup [iV 3, .agg [iV c.kind, iV c.street, iV c.other, iV 0, iV 0, iV 0, iV 0]]) [] := by
 have hw : IntKind.i64.wrap ((p.length : Int) - 1) = (p.length : Int) - 1 := wrap_i64 (by omega) (by omega)
 have s1 := sp_within c.kind 1 7
 rw [h1] at s1
 have s2 := sp_within c.street 0 ((p.length : Int) - 1)
 rw [h2] at s2
 have s3 := sp_within c.other 0 ((p.length : Int) - 1)
 rw [h3] at s3
 refine spec_body Tryz.func132 rfl (fun E hE => ?_); simp only [go_sem, Tryz.ntmps132]
 repeat' (first | (with_reducible (show runOps ..); first | (refine Qr rfl ?_; try intro K' hK; try simp only [go_sem, *])) | (with_reducible (show Hold ..); first | refine Qh rfl ?_ | refine s_draw rfl Tryz.mixed (by kernel_rfl) ?_ | (refine s_cond rfl ⟨_, rfl, fun hb => ?_, fun hb => ?_⟩ <;> (have hc := hb; try simp only [go_sem] at hc)) | refine s_ret rfl ?_) | (with_reducible (show callA ..); first | ((first | refine call_s (s1) ?_ ?_ | refine call_s (s2) ?_ ?_ | refine call_s (s3) ?_ ?_); (focus (simp only [go_sem, *]; done)); simp only [go_sem, *])) | ((with_reducible refine Qb ?_ ?_); focus kernel_rfl) | ((with_reducible refine And.intro ?_ ?_); focus omega) | (refine contA_of hK ?_; clear hK K'; simp only [go_sem, *]) | (simp only [thenA, inBlockA, go_sem, *]))
 all_goals first | contradiction | skip
 refine ⟨[iV 3, .agg [iV c.kind, iV c.street, iV c.other, iV 0, iV 0, iV 0, iV 0]], [], [], ⟨rfl, by simp only [resOne, go_sem], trivial⟩, ?_⟩
 simp only [go_sem, *]
theorem named_same4 (p : Plan) (c : Change) (hp : p.length ≤ 4294967296) (h1 : betw c.kind 1 7 = true) (h2 : betw c.street 0 ((p.length : Int) - 1) = true) (k4 : (c.kind == 4) = true) (k5 : (c.kind == 5) = false) (k6 : (c.kind == 6) = false) (k7 : (c.kind == 7) = false) (h3 : betw c.other 0 ((p.length : Int) - 1) = true) (h4 : (c.other == c.street) = true) : Spec Tryz.prog 132 [encPlan p, c.enc] [] (.tup [iV 4, .agg [iV c.kind, iV c.street, iV c.other, iV 0, iV 0, iV 0, iV 0]]) [] := by
 have hw : IntKind.i64.wrap ((p.length : Int) - 1) = (p.length : Int) - 1 := wrap_i64 (by omega) (by omega)
 have s1 := sp_within c.kind 1 7
 rw [h1] at s1
 have s2 := sp_within c.street 0 ((p.length : Int) - 1)
 rw [h2] at s2
 have s3 := sp_within c.other 0 ((p.length : Int) - 1)
 rw [h3] at s3
 refine spec_body Tryz.func132 rfl (fun E hE => ?_); simp only [go_sem, Tryz.ntmps132]
 repeat' (first | (with_reducible (show runOps ..); first | (refine Qr rfl ?_; try intro K' hK; try simp only [go_sem, *])) | (with_reducible (show Hold ..); first | refine Qh rfl ?_ | refine s_draw rfl Tryz.mixed (by kernel_rfl) ?_ | (refine s_cond rfl ⟨_, rfl, fun hb => ?_, fun hb => ?_⟩ <;> (have hc := hb; try simp only [go_sem] at hc)) | refine s_ret rfl ?_) | (with_reducible (show callA ..); first | ((first | refine call_s (s1) ?_ ?_ | refine call_s (s2) ?_ ?_ | refine call_s (s3) ?_ ?_); (focus (simp only [go_sem, *]; done)); simp only [go_sem, *])) | ((with_reducible refine Qb ?_ ?_); focus kernel_rfl) | ((with_reducible refine And.intro ?_ ?_); focus omega) | (refine contA_of hK ?_; clear hK K'; simp only [go_sem, *]) | (simp only [thenA, inBlockA, go_sem, *]))
 all_goals first | contradiction | skip
 refine ⟨[iV 4, .agg [iV c.kind, iV c.street, iV c.other, iV 0, iV 0, iV 0, iV 0]], [], [], ⟨rfl, by simp only [resOne, go_sem], trivial⟩, ?_⟩
 simp only [go_sem, *]
theorem named_out7 (p : Plan) (c : Change) (hp : p.length ≤ 4294967296) (h1 : betw c.kind 1 7 = true) (h2 : betw c.street 0 ((p.length : Int) - 1) = true) (k4 : (c.kind == 4) = false) (k5 : (c.kind == 5) = false) (k6 : (c.kind == 6) = false) (k7 : (c.kind == 7) = true) (h3 : betw c.other 0 ((p.length : Int) - 1) = false) : Spec Tryz.prog 132 [encPlan p, c.enc] [] (.tup [iV 3, .agg [iV c.kind, iV c.street, iV c.other, iV 0, iV 0, iV 0, iV 0]]) [] := by
 have hw : IntKind.i64.wrap ((p.length : Int) - 1) = (p.length : Int) - 1 := wrap_i64 (by omega) (by omega)
 have s1 := sp_within c.kind 1 7
 rw [h1] at s1
 have s2 := sp_within c.street 0 ((p.length : Int) - 1)
 rw [h2] at s2
 have s3 := sp_within c.other 0 ((p.length : Int) - 1)
 rw [h3] at s3
 refine spec_body Tryz.func132 rfl (fun E hE => ?_); simp only [go_sem, Tryz.ntmps132]
 repeat' (first | (with_reducible (show runOps ..); first | (refine Qr rfl ?_; try intro K' hK; try simp only [go_sem, *])) | (with_reducible (show Hold ..); first | refine Qh rfl ?_ | refine s_draw rfl Tryz.mixed (by kernel_rfl) ?_ | (refine s_cond rfl ⟨_, rfl, fun hb => ?_, fun hb => ?_⟩ <;> (have hc := hb; try simp only [go_sem] at hc)) | refine s_ret rfl ?_) | (with_reducible (show callA ..); first | ((first | refine call_s (s1) ?_ ?_ | refine call_s (s2) ?_ ?_ | refine call_s (s3) ?_ ?_); (focus (simp only [go_sem, *]; done)); simp only [go_sem, *])) | ((with_reducible refine Qb ?_ ?_); focus kernel_rfl) | ((with_reducible refine And.intro ?_ ?_); focus omega) | (refine contA_of hK ?_; clear hK K'; simp only [go_sem, *]) | (simp only [thenA, inBlockA, go_sem, *]))
 all_goals first | contradiction | skip
 refine ⟨[iV 3, .agg [iV c.kind, iV c.street, iV c.other, iV 0, iV 0, iV 0, iV 0]], [], [], ⟨rfl, by simp only [resOne, go_sem], trivial⟩, ?_⟩
 simp only [go_sem, *]
theorem named_same7 (p : Plan) (c : Change) (hp : p.length ≤ 4294967296) (h1 : betw c.kind 1 7 = true) (h2 : betw c.street 0 ((p.length : Int) - 1) = true) (k4 : (c.kind == 4) = false) (k5 : (c.kind == 5) = false) (k6 : (c.kind == 6) = false) (k7 : (c.kind == 7) = true) (h3 : betw c.other 0 ((p.length : Int) - 1) = true) (h4 : (c.other == c.street) = true) : Spec Tryz.prog 132 [encPlan p, c.enc] [] (.tup [iV 4, .agg [iV c.kind, iV c.street, iV c.other, iV 0, iV 0, iV 0, iV 0]]) [] := by
 have hw : IntKind.i64.wrap ((p.length : Int) - 1) = (p.length : Int) - 1 := wrap_i64 (by omega) (by omega)
 have s1 := sp_within c.kind 1 7
 rw [h1] at s1
 have s2 := sp_within c.street 0 ((p.length : Int) - 1)
 rw [h2] at s2
 have s3 := sp_within c.other 0 ((p.length : Int) - 1)
 rw [h3] at s3
 refine spec_body Tryz.func132 rfl (fun E hE => ?_); simp only [go_sem, Tryz.ntmps132]
 repeat' (first | (with_reducible (show runOps ..); first | (refine Qr rfl ?_; try intro K' hK; try simp only [go_sem, *])) | (with_reducible (show Hold ..); first | refine Qh rfl ?_ | refine s_draw rfl Tryz.mixed (by kernel_rfl) ?_ | (refine s_cond rfl ⟨_, rfl, fun hb => ?_, fun hb => ?_⟩ <;> (have hc := hb; try simp only [go_sem] at hc)) | refine s_ret rfl ?_) | (with_reducible (show callA ..); first | ((first | refine call_s (s1) ?_ ?_ | refine call_s (s2) ?_ ?_ | refine call_s (s3) ?_ ?_); (focus (simp only [go_sem, *]; done)); simp only [go_sem, *])) | ((with_reducible refine Qb ?_ ?_); focus kernel_rfl) | ((with_reducible refine And.intro ?_ ?_); focus omega) | (refine contA_of hK ?_; clear hK K'; simp only [go_sem, *]) | (simp only [thenA, inBlockA, go_sem, *]))
 all_goals first | contradiction | skip
 refine ⟨[iV 4, .agg [iV c.kind, iV c.street, iV c.other, iV 0, iV 0, iV 0, iV 0]], [], [], ⟨rfl, by simp only [resOne, go_sem], trivial⟩, ?_⟩
 simp only [go_sem, *]
theorem named_ok4 (p : Plan) (c : Change) (hp : p.length ≤ 4294967296) (h1 : betw c.kind 1 7 = true) (h2 : betw c.street 0 ((p.length : Int) - 1) = true) (k4 : (c.kind == 4) = true) (k5 : (c.kind == 5) = false) (k6 : (c.kind == 6) = false) (k7 : (c.kind == 7) = false) (h3 : betw c.other 0 ((p.length : Int) - 1) = true) (h4 : (c.other == c.street) = false) : Spec Tryz.prog 132 [encPlan p, c.enc] [] (.tup [iV 0, .agg [iV c.kind, iV c.street, iV c.other, iV 0, iV 0, iV 0, iV 0]]) [] := by
 have hw : IntKind.i64.wrap ((p.length : Int) - 1) = (p.length : Int) - 1 := wrap_i64 (by omega) (by omega)
 have s1 := sp_within c.kind 1 7
 rw [h1] at s1
 have s2 := sp_within c.street 0 ((p.length : Int) - 1)
 rw [h2] at s2
 have s3 := sp_within c.other 0 ((p.length : Int) - 1)
 rw [h3] at s3
 refine spec_body Tryz.func132 rfl (fun E hE => ?_); simp only [go_sem, Tryz.ntmps132]
 repeat' (first | (with_reducible (show runOps ..); first | (refine Qr rfl ?_; try intro K' hK; try simp only [go_sem, *])) | (with_reducible (show Hold ..); first | refine Qh rfl ?_ | refine s_draw rfl Tryz.mixed (by kernel_rfl) ?_ | (refine s_cond rfl ⟨_, rfl, fun hb => ?_, fun hb => ?_⟩ <;> (have hc := hb; try simp only [go_sem] at hc)) | refine s_ret rfl ?_) | (with_reducible (show callA ..); first | ((first | refine call_s (s1) ?_ ?_ | refine call_s (s2) ?_ ?_ | refine call_s (s3) ?_ ?_); (focus (simp only [go_sem, *]; done)); simp only [go_sem, *])) | ((with_reducible refine Qb ?_ ?_); focus kernel_rfl) | ((with_reducible refine And.intro ?_ ?_); focus omega) | (refine contA_of hK ?_; clear hK K'; simp only [go_sem, *]) | (simp only [thenA, inBlockA, go_sem, *]))
 all_goals first | contradiction | skip
 refine ⟨[iV 0, .agg [iV c.kind, iV c.street, iV c.other, iV 0, iV 0, iV 0, iV 0]], [], [], ⟨rfl, by simp only [resOne, go_sem], trivial⟩, ?_⟩
 simp only [go_sem, *]
theorem named_ok7 (p : Plan) (c : Change) (hp : p.length ≤ 4294967296) (h1 : betw c.kind 1 7 = true) (h2 : betw c.street 0 ((p.length : Int) - 1) = true) (k4 : (c.kind == 4) = false) (k5 : (c.kind == 5) = false) (k6 : (c.kind == 6) = false) (k7 : (c.kind == 7) = true) (h3 : betw c.other 0 ((p.length : Int) - 1) = true) (h4 : (c.other == c.street) = false) : Spec Tryz.prog 132 [encPlan p, c.enc] [] (.tup [iV 0, .agg [iV c.kind, iV c.street, iV c.other, iV c.src.number, iV c.src.letter, iV c.dst.number, iV c.dst.letter]]) [] := by
 have hw : IntKind.i64.wrap ((p.length : Int) - 1) = (p.length : Int) - 1 := wrap_i64 (by omega) (by omega)
 have s1 := sp_within c.kind 1 7
 rw [h1] at s1
 have s2 := sp_within c.street 0 ((p.length : Int) - 1)
 rw [h2] at s2
 have s3 := sp_within c.other 0 ((p.length : Int) - 1)
 rw [h3] at s3
 refine spec_body Tryz.func132 rfl (fun E hE => ?_); simp only [go_sem, Tryz.ntmps132]
 repeat' (first | (with_reducible (show runOps ..); first | (refine Qr rfl ?_; try intro K' hK; try simp only [go_sem, *])) | (with_reducible (show Hold ..); first | refine Qh rfl ?_ | refine s_draw rfl Tryz.mixed (by kernel_rfl) ?_ | (refine s_cond rfl ⟨_, rfl, fun hb => ?_, fun hb => ?_⟩ <;> (have hc := hb; try simp only [go_sem] at hc)) | refine s_ret rfl ?_) | (with_reducible (show callA ..); first | ((first | refine call_s (s1) ?_ ?_ | refine call_s (s2) ?_ ?_ | refine call_s (s3) ?_ ?_); (focus (simp only [go_sem, *]; done)); simp only [go_sem, *])) | ((with_reducible refine Qb ?_ ?_); focus kernel_rfl) | ((with_reducible refine And.intro ?_ ?_); focus omega) | (refine contA_of hK ?_; clear hK K'; simp only [go_sem, *]) | (simp only [thenA, inBlockA, go_sem, *]))
 all_goals first | contradiction | skip
 refine ⟨[iV 0, .agg [iV c.kind, iV c.street, iV c.other, iV c.src.number, iV c.src.letter, iV c.dst.number, iV c.dst.letter]], [], [], ⟨rfl, by simp only [resOne, go_sem], trivial⟩, ?_⟩
 simp only [go_sem, *]
theorem named_ok5 (p : Plan) (c : Change) (hp : p.length ≤ 4294967296) (h1 : betw c.kind 1 7 = true) (h2 : betw c.street 0 ((p.length : Int) - 1) = true) (k4 : (c.kind == 4) = false) (k5 : (c.kind == 5) = true) (k6 : (c.kind == 6) = false) (k7 : (c.kind == 7) = false) : Spec Tryz.prog 132 [encPlan p, c.enc] [] (.tup [iV 0, .agg [iV c.kind, iV c.street, iV 0, iV c.src.number, iV c.src.letter, iV 0, iV 0]]) [] := by
 have hw : IntKind.i64.wrap ((p.length : Int) - 1) = (p.length : Int) - 1 := wrap_i64 (by omega) (by omega)
 have s1 := sp_within c.kind 1 7
 rw [h1] at s1
 have s2 := sp_within c.street 0 ((p.length : Int) - 1)
 rw [h2] at s2
 refine spec_body Tryz.func132 rfl (fun E hE => ?_); simp only [go_sem, Tryz.ntmps132]
 repeat' (first | (with_reducible (show runOps ..); first | (refine Qr rfl ?_; try intro K' hK; try simp only [go_sem, *])) | (with_reducible (show Hold ..); first | refine Qh rfl ?_ | refine s_draw rfl Tryz.mixed (by kernel_rfl) ?_ | (refine s_cond rfl ⟨_, rfl, fun hb => ?_, fun hb => ?_⟩ <;> (have hc := hb; try simp only [go_sem] at hc)) | refine s_ret rfl ?_) | (with_reducible (show callA ..); first | ((first | refine call_s (s1) ?_ ?_ | refine call_s (s2) ?_ ?_); (focus (simp only [go_sem, *]; done)); simp only [go_sem, *])) | ((with_reducible refine Qb ?_ ?_); focus kernel_rfl) | ((with_reducible refine And.intro ?_ ?_); focus omega) | (refine contA_of hK ?_; clear hK K'; simp only [go_sem, *]) | (simp only [thenA, inBlockA, go_sem, *]))
 all_goals first | contradiction | skip
 refine ⟨[iV 0, .agg [iV c.kind, iV c.street, iV 0, iV c.src.number, iV c.src.letter, iV 0, iV 0]], [], [], ⟨rfl, by simp only [resOne, go_sem], trivial⟩, ?_⟩
 simp only [go_sem, *]
theorem named_ok6 (p : Plan) (c : Change) (hp : p.length ≤ 4294967296) (h1 : betw c.kind 1 7 = true) (h2 : betw c.street 0 ((p.length : Int) - 1) = true) (k4 : (c.kind == 4) = false) (k5 : (c.kind == 5) = false) (k6 : (c.kind == 6) = true) (k7 : (c.kind == 7) = false) : Spec Tryz.prog 132 [encPlan p, c.enc] [] (.tup [iV 0, .agg [iV c.kind, iV c.street, iV 0, iV c.src.number, iV c.src.letter, iV 0, iV 0]]) [] := by
 have hw : IntKind.i64.wrap ((p.length : Int) - 1) = (p.length : Int) - 1 := wrap_i64 (by omega) (by omega)
 have s1 := sp_within c.kind 1 7
 rw [h1] at s1
 have s2 := sp_within c.street 0 ((p.length : Int) - 1)
 rw [h2] at s2
 refine spec_body Tryz.func132 rfl (fun E hE => ?_); simp only [go_sem, Tryz.ntmps132]
 repeat' (first | (with_reducible (show runOps ..); first | (refine Qr rfl ?_; try intro K' hK; try simp only [go_sem, *])) | (with_reducible (show Hold ..); first | refine Qh rfl ?_ | refine s_draw rfl Tryz.mixed (by kernel_rfl) ?_ | (refine s_cond rfl ⟨_, rfl, fun hb => ?_, fun hb => ?_⟩ <;> (have hc := hb; try simp only [go_sem] at hc)) | refine s_ret rfl ?_) | (with_reducible (show callA ..); first | ((first | refine call_s (s1) ?_ ?_ | refine call_s (s2) ?_ ?_); (focus (simp only [go_sem, *]; done)); simp only [go_sem, *])) | ((with_reducible refine Qb ?_ ?_); focus kernel_rfl) | ((with_reducible refine And.intro ?_ ?_); focus omega) | (refine contA_of hK ?_; clear hK K'; simp only [go_sem, *]) | (simp only [thenA, inBlockA, go_sem, *]))
 all_goals first | contradiction | skip
 refine ⟨[iV 0, .agg [iV c.kind, iV c.street, iV 0, iV c.src.number, iV c.src.letter, iV 0, iV 0]], [], [], ⟨rfl, by simp only [resOne, go_sem], trivial⟩, ?_⟩
 simp only [go_sem, *]
theorem named_ok (p : Plan) (c : Change) (hp : p.length ≤ 4294967296) (h1 : betw c.kind 1 7 = true) (h2 : betw c.street 0 ((p.length : Int) - 1) = true) (k4 : (c.kind == 4) = false) (k5 : (c.kind == 5) = false) (k6 : (c.kind == 6) = false) (k7 : (c.kind == 7) = false) : Spec Tryz.prog 132 [encPlan p, c.enc] [] (.tup [iV 0, .agg [iV c.kind, iV c.street, iV 0, iV 0, iV 0, iV 0, iV 0]]) [] := by
 have hw : IntKind.i64.wrap ((p.length : Int) - 1) = (p.length : Int) - 1 := wrap_i64 (by omega) (by omega)
 have s1 := sp_within c.kind 1 7
 rw [h1] at s1
 have s2 := sp_within c.street 0 ((p.length : Int) - 1)
 rw [h2] at s2
 refine spec_body Tryz.func132 rfl (fun E hE => ?_); simp only [go_sem, Tryz.ntmps132]
 repeat' (first | (with_reducible (show runOps ..); first | (refine Qr rfl ?_; try intro K' hK; try simp only [go_sem, *])) | (with_reducible (show Hold ..); first | refine Qh rfl ?_ | refine s_draw rfl Tryz.mixed (by kernel_rfl) ?_ | (refine s_cond rfl ⟨_, rfl, fun hb => ?_, fun hb => ?_⟩ <;> (have hc := hb; try simp only [go_sem] at hc)) | refine s_ret rfl ?_) | (with_reducible (show callA ..); first | ((first | refine call_s (s1) ?_ ?_ | refine call_s (s2) ?_ ?_); (focus (simp only [go_sem, *]; done)); simp only [go_sem, *])) | ((with_reducible refine Qb ?_ ?_); focus kernel_rfl) | ((with_reducible refine And.intro ?_ ?_); focus omega) | (refine contA_of hK ?_; clear hK K'; simp only [go_sem, *]) | (simp only [thenA, inBlockA, go_sem, *]))
 all_goals first | contradiction | skip
 refine ⟨[iV 0, .agg [iV c.kind, iV c.street, iV 0, iV 0, iV 0, iV 0, iV 0]], [], [], ⟨rfl, by simp only [resOne, go_sem], trivial⟩, ?_⟩
 simp only [go_sem, *]
def namedErr (p : Plan) (c : Change) : Int :=
 if betw c.kind 1 7 = false then 8
 else if betw c.street 0 (p.length - 1) = false then 3
 else if (c.kind = 4 ∨ c.kind = 7) ∧ betw c.other 0 (p.length - 1) = false then 3
 else if (c.kind = 4 ∨ c.kind = 7) ∧ c.other = c.street then 4 else 0
def namedX (c : Change) : Change := ⟨c.kind, c.street, if c.kind = 4 ∨ c.kind = 7 then c.other else 0, if 5 ≤ c.kind then c.src else zeroPlate, if c.kind = 7 then c.dst else zeroPlate⟩
theorem can_named (p : Plan) (c : Change) : can p c = if namedErr p c = 0 then (if c = namedX c then fitsE p c else 1) else namedErr p c := by
 unfold can namedErr
 by_cases h1 : betw c.kind 1 7 = false
 ·rw [if_pos h1, if_pos h1, if_neg (by decide)]
 rw [if_neg h1, if_neg h1]
 by_cases h2 : betw c.street 0 (p.length - 1) = false
 ·rw [if_pos h2, if_pos h2, if_neg (by decide)]
 rw [if_neg h2, if_neg h2]
 by_cases h3 : (c.kind = 4 ∨ c.kind = 7) ∧ betw c.other 0 (p.length - 1) = false
 ·rw [if_pos h3, if_pos h3, if_neg (by decide)]
 rw [if_neg h3, if_neg h3]
 by_cases h4 : (c.kind = 4 ∨ c.kind = 7) ∧ c.other = c.street
 ·rw [if_pos h4, if_pos h4, if_neg (by decide)]
 rw [if_neg h4, if_neg h4, if_pos rfl]
 by_cases h5 : (¬ (c.kind = 4 ∨ c.kind = 7) ∧ c.other ≠ 0) ∨ (¬ 5 ≤ c.kind ∧ c.src ≠ zeroPlate) ∨ (¬ c.kind = 7 ∧ c.dst ≠ zeroPlate)
 ·rw [if_pos h5, if_neg]
  intro e
  rw [Change.eq_iff] at e
  obtain ⟨_, _, e1, e2, e3⟩ := e
  simp only [namedX] at e1 e2 e3
  rcases h5 with ⟨a, b⟩ | ⟨a, b⟩ | ⟨a, b⟩
  ·rw [if_neg a] at e1; exact b e1
  ·rw [if_neg a] at e2; exact b e2
  ·rw [if_neg a] at e3; exact b e3
 ·rw [if_neg h5, if_pos]
  rw [Change.eq_iff]
  refine ⟨rfl, rfl, ?_, ?_, ?_⟩
  ·simp only [namedX]
   split
   ·rfl
   ·rename_i a; exact Classical.byContradiction fun b => h5 (.inl ⟨a, b⟩)
  ·simp only [namedX]
   split
   ·rfl
   ·rename_i a; exact Classical.byContradiction fun b => h5 (.inr (.inl ⟨a, b⟩))
  ·simp only [namedX]
   split
   ·rfl
   ·rename_i a; exact Classical.byContradiction fun b => h5 (.inr (.inr ⟨a, b⟩))
theorem sp_named (p : Plan) (c : Change) (hp : p.length ≤ 4294967296) : ∃ x : Change, (namedErr p c = 0 → x = namedX c) ∧ Spec Tryz.prog 132 [encPlan p, c.enc] [] (.tup [iV (namedErr p c), x.enc]) [] := by
 have bt : ∀ {b : Bool}, ¬ b = false → b = true := fun h => by simpa using h
 have nk : ∀ n : Int, ¬ c.kind = n → (c.kind == n) = false := fun n h => by rw [beq_eq_false_iff_ne]; exact h
 have yk : ∀ n : Int, c.kind = n → (c.kind == n) = true := fun n h => by rw [beq_iff_eq]; exact h
 by_cases h1 : betw c.kind 1 7 = false
 ·have e : namedErr p c = 8 := by unfold namedErr; rw [if_pos h1]
  rw [e]
  exact ⟨⟨c.kind, c.street, 0, zeroPlate, zeroPlate⟩, fun h => by omega, named_kind p c hp h1⟩
 by_cases h2 : betw c.street 0 (p.length - 1) = false
 ·have e : namedErr p c = 3 := by unfold namedErr; rw [if_neg h1, if_pos h2]
  rw [e]
  exact ⟨⟨c.kind, c.street, 0, zeroPlate, zeroPlate⟩, fun h => by omega, named_street p c hp (bt h1) h2⟩
 have b1 := bt h1
 have b2 := bt h2
 by_cases k47 : c.kind = 4 ∨ c.kind = 7
 ·by_cases h3 : betw c.other 0 (p.length - 1) = false
  ·have e : namedErr p c = 3 := by unfold namedErr; rw [if_neg h1, if_neg h2, if_pos ⟨k47, h3⟩]
   rw [e]
   refine ⟨⟨c.kind, c.street, c.other, zeroPlate, zeroPlate⟩, fun h => by omega, ?_⟩
   rcases k47 with k | k
   ·exact named_out4 p c hp b1 b2 (yk 4 k) (nk 5 (by omega)) (nk 6 (by omega)) (nk 7 (by omega)) h3
   ·exact named_out7 p c hp b1 b2 (nk 4 (by omega)) (nk 5 (by omega)) (nk 6 (by omega)) (yk 7 k) h3
  ·have b3 := bt h3
   by_cases h4 : c.other = c.street
   ·have e : namedErr p c = 4 := by unfold namedErr; rw [if_neg h1, if_neg h2, if_neg (fun h => h3 h.2), if_pos ⟨k47, h4⟩]
    have s4 : (c.other == c.street) = true := by rw [beq_iff_eq]; exact h4
    rw [e]
    refine ⟨⟨c.kind, c.street, c.other, zeroPlate, zeroPlate⟩, fun h => by omega, ?_⟩
    rcases k47 with k | k
    ·exact named_same4 p c hp b1 b2 (yk 4 k) (nk 5 (by omega)) (nk 6 (by omega)) (nk 7 (by omega)) b3 s4
    ·exact named_same7 p c hp b1 b2 (nk 4 (by omega)) (nk 5 (by omega)) (nk 6 (by omega)) (yk 7 k) b3 s4
   ·have e : namedErr p c = 0 := by unfold namedErr; rw [if_neg h1, if_neg h2, if_neg (fun h => h3 h.2), if_neg (fun h => h4 h.2)]
    have s4 : (c.other == c.street) = false := by rw [beq_eq_false_iff_ne]; exact h4
    rw [e]
    rcases k47 with k | k
    ·refine ⟨⟨c.kind, c.street, c.other, zeroPlate, zeroPlate⟩, fun _ => ?_, named_ok4 p c hp b1 b2 (yk 4 k) (nk 5 (by omega)) (nk 6 (by omega)) (nk 7 (by omega)) b3 s4⟩
     unfold namedX; simp [k]
    ·refine ⟨⟨c.kind, c.street, c.other, c.src, c.dst⟩, fun _ => ?_, named_ok7 p c hp b1 b2 (nk 4 (by omega)) (nk 5 (by omega)) (nk 6 (by omega)) (yk 7 k) b3 s4⟩
     unfold namedX; simp [k]
 ·have e : namedErr p c = 0 := by unfold namedErr; rw [if_neg h1, if_neg h2, if_neg (fun h => k47 h.1), if_neg (fun h => k47 h.1)]
  rw [e]
  by_cases k5 : c.kind = 5
  ·refine ⟨⟨c.kind, c.street, 0, c.src, zeroPlate⟩, fun _ => ?_, named_ok5 p c hp b1 b2 (nk 4 (by omega)) (yk 5 k5) (nk 6 (by omega)) (nk 7 (by omega))⟩
   unfold namedX; simp [k5]
  ·by_cases k6 : c.kind = 6
   ·refine ⟨⟨c.kind, c.street, 0, c.src, zeroPlate⟩, fun _ => ?_, named_ok6 p c hp b1 b2 (nk 4 (by omega)) (nk 5 k5) (yk 6 k6) (nk 7 (by omega))⟩
    unfold namedX; simp [k6]
   ·have hk := betw_iff.1 b1
    refine ⟨⟨c.kind, c.street, 0, zeroPlate, zeroPlate⟩, fun _ => ?_, named_ok p c hp b1 b2 (nk 4 (by omega)) (nk 5 k5) (nk 6 k6) (nk 7 (by omega))⟩
    unfold namedX
    rw [if_neg k47, if_neg (by omega), if_neg (by omega)]
end Go.Abs

namespace Go.Abs
open Go Go.Proofs
set_option maxRecDepth 10000
set_option maxHeartbeats 4000000
theorem idxP_neg (l : List Plate) (x : Plate) : idxP l x < 0 ↔ x ∉ l := by
 unfold idxP
 split
 ·rename_i h; simp [h]
 ·rename_i h; simp [h]
theorem idx_yes {l : List Plate} {x : Plate} (h : x ∈ l) : ¬ idxP l x < 0 := fun e => (idxP_neg l x).1 e h
theorem idx_no {l : List Plate} {x : Plate} (h : x ∉ l) : idxP l x < 0 := (idxP_neg l x).2 h
theorem fits_k4 (p : Plan) (c : Change) (v : Valid p) (hs : 0 ≤ c.street ∧ c.street < p.length) (ho : 0 ≤ c.other ∧ c.other < p.length) (k : c.kind = 4) (R : Int) (hR : fitsE p c = R) : Spec Tryz.prog 133 [encPlan p, c.enc] [] (iV R) [] := by
 have hl := (v.row c.street).len
 have hol := (v.row c.other).len
 have hob := base_le (v.row c.other)
 have hok := (v.row c.street).ok
 have sb := sp_base (rowAt p c.other) (by omega) (v.row c.other).ok
 have hs' : c.street.toNat < p.length := by omega
 have ho' : c.other.toNat < p.length := by omega
 obtain ⟨hs0, hs1⟩ := hs
 obtain ⟨ho0, ho1⟩ := ho
 have hw : IntKind.i64.wrap (((rowAt p c.street).length : Int) + ((rowAt p c.other).length : Int)) = ((rowAt p c.street).length : Int) + ((rowAt p c.other).length : Int) := wrap_i64 (by omega) (by omega)
 rw [fitsE_join k] at hR
 have k' : (c.kind == 4) = true := by rw [beq_iff_eq]; exact k
 clear k
 by_cases q : 8 < (rowAt p c.street).length + (rowAt p c.other).length
 ·rw [if_pos q] at hR
  have q' : ((rowAt p c.street).length : Int) + ((rowAt p c.other).length : Int) > 8 := by omega
  subst hR
  clear hob hok
  refine spec_body Tryz.func133 rfl (fun E hE => ?_); simp only [go_sem, Tryz.ntmps133]
  repeat' (first | (with_reducible (show runOps ..); first | (refine Qr rfl ?_; try intro K' hK; try simp only [go_sem, *]) | (refine Qi rfl rfl rfl rfl (fun hb K' hK => ?_) (fun hb => ?_) <;> (have hc := hb; try simp only [go_sem] at hc; simp only [go_sem, *]))) | (with_reducible (show Hold ..); first | refine Qh rfl ?_ | refine s_draw rfl Tryz.mixed (by kernel_rfl) ?_ | (refine s_cond rfl ⟨_, rfl, fun hb => ?_, fun hb => ?_⟩ <;> (have hc := hb; try simp only [go_sem] at hc)) | refine s_ret rfl ?_) | ((with_reducible refine Qb ?_ ?_); focus kernel_rfl) | ((with_reducible refine And.intro ?_ ?_); focus omega) | (refine contA_of hK ?_; clear hK K'; simp only [go_sem, *]) | (simp only [thenA, inBlockA, go_sem, *]))
  all_goals first | contradiction | omega | skip
  (refine ⟨[_], [], [], ⟨rfl, trivial⟩, ?_⟩; simp only [go_sem, *])
 ·rw [if_neg q] at hR
  have q' : ¬ ((rowAt p c.street).length : Int) + ((rowAt p c.other).length : Int) > 8 := by omega
  have hR0 : (if ((rowAt p c.street).drop 0).any (fun x => decide (40 < x.number + base (rowAt p c.other))) = true then (1 : Int) else 0) = R := hR
  clear hR q
  generalize base (rowAt p c.other) = bb at *
  refine spec_body Tryz.func133 rfl (fun E hE => ?_); simp only [go_sem, Tryz.ntmps133]
  repeat' (first | (with_reducible (show runOps ..); first | (refine Qr rfl ?_; try intro K' hK; try simp only [go_sem, *]) | (refine Qi rfl rfl rfl rfl (fun hb K' hK => ?_) (fun hb => ?_) <;> (have hc := hb; try simp only [go_sem] at hc; simp only [go_sem, *]))) | (with_reducible (show Hold ..); first | refine Qh rfl ?_ | refine s_draw rfl Tryz.mixed (by kernel_rfl) ?_ | (refine s_cond rfl ⟨_, rfl, fun hb => ?_, fun hb => ?_⟩ <;> (have hc := hb; try simp only [go_sem] at hc)) | refine s_ret rfl ?_) | ((with_reducible refine Qb ?_ ?_); focus kernel_rfl) | ((with_reducible refine And.intro ?_ ?_); focus omega) | (refine contA_of hK ?_; clear hK K'; simp only [go_sem, *]) | (simp only [thenA, inBlockA, go_sem, *]))
  all_goals first | contradiction | omega | skip
  generalize hll : rowAt p c.street = l at *
  refine s_loop rfl (fun zn zN zenv zAs => ∃ (i : Nat), zn = (l.length) - i ∧ i ≤ (l.length) ∧ ((if (l.drop i).any (fun x => decide (40 < x.number + bb)) = true then (1 : Int) else 0) = R) ∧ zN = 97 ∧ zenv = [(7, iV i), (6, encStreet (rowAt p c.other)), (5, encStreet l)] ∧ zAs = []) (l.length) ⟨[], [], _, _, _, (by (simp only [Weak, go_sem, List.map_append, List.map_set, *] <;> (try simp (disch := omega) only [wrap_succ]) <;> (try simp) <;> (try omega))), 0, (by simp), (by simp), (by exact hR0), rfl, rfl, rfl⟩ ?_; rintro _ _ _ _ ⟨i, rfl, hi, hP, rfl, rfl, rfl⟩
  clear hR0
  by_cases hi2 : i < l.length
  ·have hx := (ok_iff _).1 (hok _ (getD_mem hi2))
   rw [drop_cons hi2, List.any_cons] at hP
   have hwx : IntKind.i64.wrap ((l.getD i default).number + bb) = (l.getD i default).number + bb := wrap_i64 (by omega) (by omega)
   by_cases r : 40 < (l.getD i default).number + bb
   ·have e : decide (40 < (l.getD i default).number + bb) = true := by simpa using r
    rw [e, Bool.true_or, if_pos rfl] at hP
    have r' : (l.getD i default).number + bb > 40 := r
    clear e r
    subst hP
    repeat' (first | (with_reducible (show runOps ..); first | (refine Qr rfl ?_; try intro K' hK; try simp only [go_sem, *]) | (refine Qi rfl rfl rfl rfl (fun hb K' hK => ?_) (fun hb => ?_) <;> (have hc := hb; try simp only [go_sem] at hc; simp only [go_sem, *]))) | (with_reducible (show Hold ..); first | refine Qh rfl ?_ | refine s_draw rfl Tryz.mixed (by kernel_rfl) ?_ | (refine s_cond rfl ⟨_, rfl, fun hb => ?_, fun hb => ?_⟩ <;> (have hc := hb; try simp only [go_sem] at hc)) | refine s_ret rfl ?_) | (with_reducible (show callA ..); first | (refine call_s (sb) ?_ ?_; (focus (simp only [go_sem, *]; done)); simp only [go_sem, *])) | ((with_reducible refine Qb ?_ ?_); focus kernel_rfl) | ((with_reducible refine And.intro ?_ ?_); focus omega) | (refine contA_of hK ?_; clear hK K'; simp only [go_sem, *]) | (simp only [thenA, inBlockA, go_sem, *]))
    all_goals first | contradiction | omega | skip
    (refine ⟨[_], [], [], ⟨rfl, trivial⟩, ?_⟩; simp only [go_sem, *])
   ·have e : decide (40 < (l.getD i default).number + bb) = false := by simpa using r
    rw [e, Bool.false_or] at hP
    have r' : ¬ (l.getD i default).number + bb > 40 := r
    clear e r
    repeat' (first | (with_reducible (show runOps ..); first | (refine Qr rfl ?_; try intro K' hK; try simp only [go_sem, *]) | (refine Qi rfl rfl rfl rfl (fun hb K' hK => ?_) (fun hb => ?_) <;> (have hc := hb; try simp only [go_sem] at hc; simp only [go_sem, *]))) | (with_reducible (show Hold ..); first | refine Qh rfl ?_ | refine s_draw rfl Tryz.mixed (by kernel_rfl) ?_ | (refine s_cond rfl ⟨_, rfl, fun hb => ?_, fun hb => ?_⟩ <;> (have hc := hb; try simp only [go_sem] at hc)) | refine s_ret rfl ?_) | (with_reducible (show callA ..); first | (refine call_s (sb) ?_ ?_; (focus (simp only [go_sem, *]; done)); simp only [go_sem, *])) | ((with_reducible refine Qb ?_ ?_); focus kernel_rfl) | ((with_reducible refine And.intro ?_ ?_); focus omega) | (refine contA_of hK ?_; clear hK K'; simp only [go_sem, *]) | (simp only [thenA, inBlockA, go_sem, *]))
    all_goals first | contradiction | omega | skip
    refine ⟨_, (by omega), [], [], _, _, _, (by (simp only [Weak, go_sem, List.map_append, List.map_set, *] <;> (try simp (disch := omega) only [wrap_succ]) <;> (try simp) <;> (try omega))), i + 1, rfl, (by omega), (by exact hP), rfl, rfl, rfl⟩
  ·rw [drop_end (by omega), List.any_nil, if_neg (by decide)] at hP
   subst hP
   repeat' (first | (with_reducible (show runOps ..); first | (refine Qr rfl ?_; try intro K' hK; try simp only [go_sem, *]) | (refine Qi rfl rfl rfl rfl (fun hb K' hK => ?_) (fun hb => ?_) <;> (have hc := hb; try simp only [go_sem] at hc; simp only [go_sem, *]))) | (with_reducible (show Hold ..); first | refine Qh rfl ?_ | refine s_draw rfl Tryz.mixed (by kernel_rfl) ?_ | (refine s_cond rfl ⟨_, rfl, fun hb => ?_, fun hb => ?_⟩ <;> (have hc := hb; try simp only [go_sem] at hc)) | refine s_ret rfl ?_) | ((with_reducible refine Qb ?_ ?_); focus kernel_rfl) | ((with_reducible refine And.intro ?_ ?_); focus omega) | (refine contA_of hK ?_; clear hK K'; simp only [go_sem, *]) | (simp only [thenA, inBlockA, go_sem, *]))
   (refine ⟨[_], [], [], ⟨rfl, trivial⟩, ?_⟩; simp only [go_sem, *])
theorem fits_k5 (p : Plan) (c : Change) (v : Valid p) (hs : 0 ≤ c.street ∧ c.street < p.length) (k : c.kind = 5) (R : Int) (hR : fitsE p c = R) : Spec Tryz.prog 133 [encPlan p, c.enc] [] (iV R) [] := by
 have hl := (v.row c.street).len
 have hs' : c.street.toNat < p.length := by omega
 obtain ⟨hs0, hs1⟩ := hs
 rw [fitsE_divide k] at hR
 have k' : (c.kind == 5) = true := by rw [beq_iff_eq]; exact k
 have k4 : (c.kind == 4) = false := by rw [beq_eq_false_iff_ne]; omega
 clear k
 have s1 := sp_index (rowAt p c.street) c.src (by omega)
 have s2 := sp_letter (rowAt p c.street) c.src.number (by omega)
 by_cases q : c.src ∈ rowAt p c.street
 ·rw [if_neg (by simpa using q)] at hR
  have q' := idx_yes q
  clear q
  generalize idxP (rowAt p c.street) c.src = ix at *
  generalize letter (rowAt p c.street) c.src.number = lt at *
  by_cases r : (rowAt p c.street).length = 8
  ·rw [if_pos (.inl r)] at hR
   have r' : (((rowAt p c.street).length : Int) == 8) = true := by rw [beq_iff_eq]; omega
   clear r
   subst hR
   refine spec_body Tryz.func133 rfl (fun E hE => ?_); simp only [go_sem, Tryz.ntmps133]
   repeat' (first | (with_reducible (show runOps ..); first | (refine Qr rfl ?_; try intro K' hK; try simp only [go_sem, *]) | (refine Qi rfl rfl rfl rfl (fun hb K' hK => ?_) (fun hb => ?_) <;> (have hc := hb; try simp only [go_sem] at hc; simp only [go_sem, *]))) | (with_reducible (show Hold ..); first | refine Qh rfl ?_ | refine s_draw rfl Tryz.mixed (by kernel_rfl) ?_ | (refine s_cond rfl ⟨_, rfl, fun hb => ?_, fun hb => ?_⟩ <;> (have hc := hb; try simp only [go_sem] at hc)) | refine s_ret rfl ?_) | (with_reducible (show callA ..); first | ((first | refine call_s (s1) ?_ ?_ | refine call_s (s2) ?_ ?_); (focus (simp only [go_sem, *]; done)); simp only [go_sem, *])) | ((with_reducible refine Qb ?_ ?_); focus kernel_rfl) | ((with_reducible refine And.intro ?_ ?_); focus omega) | (refine contA_of hK ?_; clear hK K'; simp only [go_sem, *]) | (simp only [thenA, inBlockA, go_sem, *]))
   all_goals first | contradiction | omega | skip
   (refine ⟨[_], [], [], ⟨rfl, trivial⟩, ?_⟩; simp only [go_sem, *])
  ·have r' : (((rowAt p c.street).length : Int) == 8) = false := by rw [beq_eq_false_iff_ne]; omega
   by_cases t : lt = 0
   ·rw [if_pos (.inr t)] at hR
    clear r
    subst t
    subst hR
    refine spec_body Tryz.func133 rfl (fun E hE => ?_); simp only [go_sem, Tryz.ntmps133]
    repeat' (first | (with_reducible (show runOps ..); first | (refine Qr rfl ?_; try intro K' hK; try simp only [go_sem, *]) | (refine Qi rfl rfl rfl rfl (fun hb K' hK => ?_) (fun hb => ?_) <;> (have hc := hb; try simp only [go_sem] at hc; simp only [go_sem, *]))) | (with_reducible (show Hold ..); first | refine Qh rfl ?_ | refine s_draw rfl Tryz.mixed (by kernel_rfl) ?_ | (refine s_cond rfl ⟨_, rfl, fun hb => ?_, fun hb => ?_⟩ <;> (have hc := hb; try simp only [go_sem] at hc)) | refine s_ret rfl ?_) | (with_reducible (show callA ..); first | ((first | refine call_s (s1) ?_ ?_ | refine call_s (s2) ?_ ?_); (focus (simp only [go_sem, *]; done)); simp only [go_sem, *])) | ((with_reducible refine Qb ?_ ?_); focus kernel_rfl) | ((with_reducible refine And.intro ?_ ?_); focus omega) | (refine contA_of hK ?_; clear hK K'; simp only [go_sem, *]) | (simp only [thenA, inBlockA, go_sem, *]))
    all_goals first | contradiction | omega | skip
    (refine ⟨[_], [], [], ⟨rfl, trivial⟩, ?_⟩; simp only [go_sem, *])
   ·rw [if_neg (by rintro (h | h); exact r h; exact t h)] at hR
    have t' : (lt == 0) = false := by rw [beq_eq_false_iff_ne]; exact t
    clear r t
    subst hR
    refine spec_body Tryz.func133 rfl (fun E hE => ?_); simp only [go_sem, Tryz.ntmps133]
    repeat' (first | (with_reducible (show runOps ..); first | (refine Qr rfl ?_; try intro K' hK; try simp only [go_sem, *]) | (refine Qi rfl rfl rfl rfl (fun hb K' hK => ?_) (fun hb => ?_) <;> (have hc := hb; try simp only [go_sem] at hc; simp only [go_sem, *]))) | (with_reducible (show Hold ..); first | refine Qh rfl ?_ | refine s_draw rfl Tryz.mixed (by kernel_rfl) ?_ | (refine s_cond rfl ⟨_, rfl, fun hb => ?_, fun hb => ?_⟩ <;> (have hc := hb; try simp only [go_sem] at hc)) | refine s_ret rfl ?_) | (with_reducible (show callA ..); first | ((first | refine call_s (s1) ?_ ?_ | refine call_s (s2) ?_ ?_); (focus (simp only [go_sem, *]; done)); simp only [go_sem, *])) | ((with_reducible refine Qb ?_ ?_); focus kernel_rfl) | ((with_reducible refine And.intro ?_ ?_); focus omega) | (refine contA_of hK ?_; clear hK K'; simp only [go_sem, *]) | (simp only [thenA, inBlockA, go_sem, *]))
    all_goals first | contradiction | omega | skip
    (refine ⟨[_], [], [], ⟨rfl, trivial⟩, ?_⟩; simp only [go_sem, *])
 ·rw [if_pos q] at hR
  have q' := idx_no q
  clear q
  generalize idxP (rowAt p c.street) c.src = ix at *
  subst hR
  refine spec_body Tryz.func133 rfl (fun E hE => ?_); simp only [go_sem, Tryz.ntmps133]
  repeat' (first | (with_reducible (show runOps ..); first | (refine Qr rfl ?_; try intro K' hK; try simp only [go_sem, *]) | (refine Qi rfl rfl rfl rfl (fun hb K' hK => ?_) (fun hb => ?_) <;> (have hc := hb; try simp only [go_sem] at hc; simp only [go_sem, *]))) | (with_reducible (show Hold ..); first | refine Qh rfl ?_ | refine s_draw rfl Tryz.mixed (by kernel_rfl) ?_ | (refine s_cond rfl ⟨_, rfl, fun hb => ?_, fun hb => ?_⟩ <;> (have hc := hb; try simp only [go_sem] at hc)) | refine s_ret rfl ?_) | (with_reducible (show callA ..); first | (refine call_s (s1) ?_ ?_; (focus (simp only [go_sem, *]; done)); simp only [go_sem, *])) | ((with_reducible refine Qb ?_ ?_); focus kernel_rfl) | ((with_reducible refine And.intro ?_ ?_); focus omega) | (refine contA_of hK ?_; clear hK K'; simp only [go_sem, *]) | (simp only [thenA, inBlockA, go_sem, *]))
  all_goals first | contradiction | omega | skip
  (refine ⟨[_], [], [], ⟨rfl, trivial⟩, ?_⟩; simp only [go_sem, *])
theorem fits_k6 (p : Plan) (c : Change) (v : Valid p) (hs : 0 ≤ c.street ∧ c.street < p.length) (k : c.kind = 6) (R : Int) (hR : fitsE p c = R) : Spec Tryz.prog 133 [encPlan p, c.enc] [] (iV R) [] := by
 have hl := (v.row c.street).len
 have hs' : c.street.toNat < p.length := by omega
 obtain ⟨hs0, hs1⟩ := hs
 rw [fitsE_fell k] at hR
 have k' : (c.kind == 6) = true := by rw [beq_iff_eq]; exact k
 have k4 : (c.kind == 4) = false := by rw [beq_eq_false_iff_ne]; omega
 have k5 : (c.kind == 5) = false := by rw [beq_eq_false_iff_ne]; omega
 clear k
 have s1 := sp_index (rowAt p c.street) c.src (by omega)
 by_cases q : c.src ∈ rowAt p c.street
 ·rw [if_neg (by simpa using q)] at hR
  have q' := idx_yes q
  clear q
  generalize idxP (rowAt p c.street) c.src = ix at *
  subst hR
  refine spec_body Tryz.func133 rfl (fun E hE => ?_); simp only [go_sem, Tryz.ntmps133]
  repeat' (first | (with_reducible (show runOps ..); first | (refine Qr rfl ?_; try intro K' hK; try simp only [go_sem, *]) | (refine Qi rfl rfl rfl rfl (fun hb K' hK => ?_) (fun hb => ?_) <;> (have hc := hb; try simp only [go_sem] at hc; simp only [go_sem, *]))) | (with_reducible (show Hold ..); first | refine Qh rfl ?_ | refine s_draw rfl Tryz.mixed (by kernel_rfl) ?_ | (refine s_cond rfl ⟨_, rfl, fun hb => ?_, fun hb => ?_⟩ <;> (have hc := hb; try simp only [go_sem] at hc)) | refine s_ret rfl ?_) | (with_reducible (show callA ..); first | (refine call_s (s1) ?_ ?_; (focus (simp only [go_sem, *]; done)); simp only [go_sem, *])) | ((with_reducible refine Qb ?_ ?_); focus kernel_rfl) | ((with_reducible refine And.intro ?_ ?_); focus omega) | (refine contA_of hK ?_; clear hK K'; simp only [go_sem, *]) | (simp only [thenA, inBlockA, go_sem, *]))
  all_goals first | contradiction | omega | skip
  (refine ⟨[_], [], [], ⟨rfl, trivial⟩, ?_⟩; simp only [go_sem, *])
 ·rw [if_pos q] at hR
  have q' := idx_no q
  clear q
  generalize idxP (rowAt p c.street) c.src = ix at *
  subst hR
  refine spec_body Tryz.func133 rfl (fun E hE => ?_); simp only [go_sem, Tryz.ntmps133]
  repeat' (first | (with_reducible (show runOps ..); first | (refine Qr rfl ?_; try intro K' hK; try simp only [go_sem, *]) | (refine Qi rfl rfl rfl rfl (fun hb K' hK => ?_) (fun hb => ?_) <;> (have hc := hb; try simp only [go_sem] at hc; simp only [go_sem, *]))) | (with_reducible (show Hold ..); first | refine Qh rfl ?_ | refine s_draw rfl Tryz.mixed (by kernel_rfl) ?_ | (refine s_cond rfl ⟨_, rfl, fun hb => ?_, fun hb => ?_⟩ <;> (have hc := hb; try simp only [go_sem] at hc)) | refine s_ret rfl ?_) | (with_reducible (show callA ..); first | (refine call_s (s1) ?_ ?_; (focus (simp only [go_sem, *]; done)); simp only [go_sem, *])) | ((with_reducible refine Qb ?_ ?_); focus kernel_rfl) | ((with_reducible refine And.intro ?_ ?_); focus omega) | (refine contA_of hK ?_; clear hK K'; simp only [go_sem, *]) | (simp only [thenA, inBlockA, go_sem, *]))
  all_goals first | contradiction | omega | skip
  (refine ⟨[_], [], [], ⟨rfl, trivial⟩, ?_⟩; simp only [go_sem, *])
theorem fits_k7 (p : Plan) (c : Change) (v : Valid p) (hs : 0 ≤ c.street ∧ c.street < p.length) (ho : 0 ≤ c.other ∧ c.other < p.length) (k : c.kind = 7) (R : Int) (hR : fitsE p c = R) : Spec Tryz.prog 133 [encPlan p, c.enc] [] (iV R) [] := by
 have hl := (v.row c.street).len
 have hs' : c.street.toNat < p.length := by omega
 have ho' : c.other.toNat < p.length := by omega
 obtain ⟨hs0, hs1⟩ := hs
 obtain ⟨ho0, ho1⟩ := ho
 rw [fitsE_court k] at hR
 have k' : (c.kind == 7) = true := by rw [beq_iff_eq]; exact k
 have k4 : (c.kind == 4) = false := by rw [beq_eq_false_iff_ne]; omega
 have k5 : (c.kind == 5) = false := by rw [beq_eq_false_iff_ne]; omega
 have k6 : (c.kind == 6) = false := by rw [beq_eq_false_iff_ne]; omega
 clear k
 have s1 := sp_index (rowAt p c.street) c.src (by omega)
 have s2 := sp_index (rowAt p c.street) c.dst (by omega)
 have s3 := sp_Before c.dst c.src
 by_cases q : c.src ∈ rowAt p c.street
 ·have q' := idx_yes q
  by_cases r : c.dst ∈ rowAt p c.street
  ·have r' := idx_yes r
   rw [if_neg (by rintro (h | h); exact h q; exact h r)] at hR
   clear q r
   generalize idxP (rowAt p c.street) c.src = ix at *
   generalize idxP (rowAt p c.street) c.dst = iy at *
   by_cases t : c.dst.lt c.src = true
   ·rw [if_pos t] at hR
    rw [t] at s3
    clear t
    subst hR
    refine spec_body Tryz.func133 rfl (fun E hE => ?_); simp only [go_sem, Tryz.ntmps133]
    repeat' (first | (with_reducible (show runOps ..); first | (refine Qr rfl ?_; try intro K' hK; try simp only [go_sem, *]) | (refine Qi rfl rfl rfl rfl (fun hb K' hK => ?_) (fun hb => ?_) <;> (have hc := hb; try simp only [go_sem] at hc; simp only [go_sem, *]))) | (with_reducible (show Hold ..); first | refine Qh rfl ?_ | refine s_draw rfl Tryz.mixed (by kernel_rfl) ?_ | (refine s_cond rfl ⟨_, rfl, fun hb => ?_, fun hb => ?_⟩ <;> (have hc := hb; try simp only [go_sem] at hc)) | refine s_ret rfl ?_) | (with_reducible (show callA ..); first | ((first | refine call_s (s1) ?_ ?_ | refine call_s (s2) ?_ ?_ | refine call_s (s3) ?_ ?_); (focus (simp only [go_sem, *]; done)); simp only [go_sem, *])) | ((with_reducible refine Qb ?_ ?_); focus kernel_rfl) | ((with_reducible refine And.intro ?_ ?_); focus omega) | (refine contA_of hK ?_; clear hK K'; simp only [go_sem, *]) | (simp only [thenA, inBlockA, go_sem, *]))
    all_goals first | contradiction | omega | skip
    (refine ⟨[_], [], [], ⟨rfl, trivial⟩, ?_⟩; simp only [go_sem, *])
   ·rw [if_neg t] at hR
    rw [Bool.not_eq_true] at t
    rw [t] at s3
    clear t
    by_cases u : 0 < (rowAt p c.other).length
    ·rw [if_pos u] at hR
     subst hR
     refine spec_body Tryz.func133 rfl (fun E hE => ?_); simp only [go_sem, Tryz.ntmps133]
     repeat' (first | (with_reducible (show runOps ..); first | (refine Qr rfl ?_; try intro K' hK; try simp only [go_sem, *]) | (refine Qi rfl rfl rfl rfl (fun hb K' hK => ?_) (fun hb => ?_) <;> (have hc := hb; try simp only [go_sem] at hc; simp only [go_sem, *]))) | (with_reducible (show Hold ..); first | refine Qh rfl ?_ | refine s_draw rfl Tryz.mixed (by kernel_rfl) ?_ | (refine s_cond rfl ⟨_, rfl, fun hb => ?_, fun hb => ?_⟩ <;> (have hc := hb; try simp only [go_sem] at hc)) | refine s_ret rfl ?_) | (with_reducible (show callA ..); first | ((first | refine call_s (s1) ?_ ?_ | refine call_s (s2) ?_ ?_ | refine call_s (s3) ?_ ?_); (focus (simp only [go_sem, *]; done)); simp only [go_sem, *])) | ((with_reducible refine Qb ?_ ?_); focus kernel_rfl) | ((with_reducible refine And.intro ?_ ?_); focus omega) | (refine contA_of hK ?_; clear hK K'; simp only [go_sem, *]) | (simp only [thenA, inBlockA, go_sem, *]))
     all_goals first | contradiction | omega | skip
     (refine ⟨[_], [], [], ⟨rfl, trivial⟩, ?_⟩; simp only [go_sem, *])
    ·rw [if_neg u] at hR
     subst hR
     refine spec_body Tryz.func133 rfl (fun E hE => ?_); simp only [go_sem, Tryz.ntmps133]
     repeat' (first | (with_reducible (show runOps ..); first | (refine Qr rfl ?_; try intro K' hK; try simp only [go_sem, *]) | (refine Qi rfl rfl rfl rfl (fun hb K' hK => ?_) (fun hb => ?_) <;> (have hc := hb; try simp only [go_sem] at hc; simp only [go_sem, *]))) | (with_reducible (show Hold ..); first | refine Qh rfl ?_ | refine s_draw rfl Tryz.mixed (by kernel_rfl) ?_ | (refine s_cond rfl ⟨_, rfl, fun hb => ?_, fun hb => ?_⟩ <;> (have hc := hb; try simp only [go_sem] at hc)) | refine s_ret rfl ?_) | (with_reducible (show callA ..); first | ((first | refine call_s (s1) ?_ ?_ | refine call_s (s2) ?_ ?_ | refine call_s (s3) ?_ ?_); (focus (simp only [go_sem, *]; done)); simp only [go_sem, *])) | ((with_reducible refine Qb ?_ ?_); focus kernel_rfl) | ((with_reducible refine And.intro ?_ ?_); focus omega) | (refine contA_of hK ?_; clear hK K'; simp only [go_sem, *]) | (simp only [thenA, inBlockA, go_sem, *]))
     all_goals first | contradiction | omega | skip
     (refine ⟨[_], [], [], ⟨rfl, trivial⟩, ?_⟩; simp only [go_sem, *])
  ·have r' := idx_no r
   rw [if_pos (.inr r)] at hR
   clear q r
   generalize idxP (rowAt p c.street) c.src = ix at *
   generalize idxP (rowAt p c.street) c.dst = iy at *
   subst hR
   refine spec_body Tryz.func133 rfl (fun E hE => ?_); simp only [go_sem, Tryz.ntmps133]
   repeat' (first | (with_reducible (show runOps ..); first | (refine Qr rfl ?_; try intro K' hK; try simp only [go_sem, *]) | (refine Qi rfl rfl rfl rfl (fun hb K' hK => ?_) (fun hb => ?_) <;> (have hc := hb; try simp only [go_sem] at hc; simp only [go_sem, *]))) | (with_reducible (show Hold ..); first | refine Qh rfl ?_ | refine s_draw rfl Tryz.mixed (by kernel_rfl) ?_ | (refine s_cond rfl ⟨_, rfl, fun hb => ?_, fun hb => ?_⟩ <;> (have hc := hb; try simp only [go_sem] at hc)) | refine s_ret rfl ?_) | (with_reducible (show callA ..); first | ((first | refine call_s (s1) ?_ ?_ | refine call_s (s2) ?_ ?_); (focus (simp only [go_sem, *]; done)); simp only [go_sem, *])) | ((with_reducible refine Qb ?_ ?_); focus kernel_rfl) | ((with_reducible refine And.intro ?_ ?_); focus omega) | (refine contA_of hK ?_; clear hK K'; simp only [go_sem, *]) | (simp only [thenA, inBlockA, go_sem, *]))
   all_goals first | contradiction | omega | skip
   (refine ⟨[_], [], [], ⟨rfl, trivial⟩, ?_⟩; simp only [go_sem, *])
 ·have q' := idx_no q
  rw [if_pos (.inl q)] at hR
  clear q
  generalize idxP (rowAt p c.street) c.src = ix at *
  subst hR
  refine spec_body Tryz.func133 rfl (fun E hE => ?_); simp only [go_sem, Tryz.ntmps133]
  repeat' (first | (with_reducible (show runOps ..); first | (refine Qr rfl ?_; try intro K' hK; try simp only [go_sem, *]) | (refine Qi rfl rfl rfl rfl (fun hb K' hK => ?_) (fun hb => ?_) <;> (have hc := hb; try simp only [go_sem] at hc; simp only [go_sem, *]))) | (with_reducible (show Hold ..); first | refine Qh rfl ?_ | refine s_draw rfl Tryz.mixed (by kernel_rfl) ?_ | (refine s_cond rfl ⟨_, rfl, fun hb => ?_, fun hb => ?_⟩ <;> (have hc := hb; try simp only [go_sem] at hc)) | refine s_ret rfl ?_) | (with_reducible (show callA ..); first | (refine call_s (s1) ?_ ?_; (focus (simp only [go_sem, *]; done)); simp only [go_sem, *])) | ((with_reducible refine Qb ?_ ?_); focus kernel_rfl) | ((with_reducible refine And.intro ?_ ?_); focus omega) | (refine contA_of hK ?_; clear hK K'; simp only [go_sem, *]) | (simp only [thenA, inBlockA, go_sem, *]))
  all_goals first | contradiction | omega | skip
  (refine ⟨[_], [], [], ⟨rfl, trivial⟩, ?_⟩; simp only [go_sem, *])
theorem fits_k (p : Plan) (c : Change) (hs : 0 ≤ c.street ∧ c.street < p.length) (k : c.kind < 4) : Spec Tryz.prog 133 [encPlan p, c.enc] [] (iV 0) [] := by
 have hs' : c.street.toNat < p.length := by omega
 obtain ⟨hs0, hs1⟩ := hs
 have k7 : (c.kind == 7) = false := by rw [beq_eq_false_iff_ne]; omega
 have k4 : (c.kind == 4) = false := by rw [beq_eq_false_iff_ne]; omega
 have k5 : (c.kind == 5) = false := by rw [beq_eq_false_iff_ne]; omega
 have k6 : (c.kind == 6) = false := by rw [beq_eq_false_iff_ne]; omega
 clear k
 refine spec_body Tryz.func133 rfl (fun E hE => ?_); simp only [go_sem, Tryz.ntmps133]
 repeat' (first | (with_reducible (show runOps ..); first | (refine Qr rfl ?_; try intro K' hK; try simp only [go_sem, *]) | (refine Qi rfl rfl rfl rfl (fun hb K' hK => ?_) (fun hb => ?_) <;> (have hc := hb; try simp only [go_sem] at hc; simp only [go_sem, *]))) | (with_reducible (show Hold ..); first | refine Qh rfl ?_ | refine s_draw rfl Tryz.mixed (by kernel_rfl) ?_ | (refine s_cond rfl ⟨_, rfl, fun hb => ?_, fun hb => ?_⟩ <;> (have hc := hb; try simp only [go_sem] at hc)) | refine s_ret rfl ?_) | ((with_reducible refine Qb ?_ ?_); focus kernel_rfl) | ((with_reducible refine And.intro ?_ ?_); focus omega) | (refine contA_of hK ?_; clear hK K'; simp only [go_sem, *]) | (simp only [thenA, inBlockA, go_sem, *]))
 all_goals first | contradiction | omega | skip
 (refine ⟨[_], [], [], ⟨rfl, trivial⟩, ?_⟩; simp only [go_sem, *])
theorem sp_rfits (p : Plan) (c : Change) (v : Valid p) (hk : 1 ≤ c.kind ∧ c.kind ≤ 7) (hs : 0 ≤ c.street ∧ c.street < p.length) (ho : c.kind = 4 ∨ c.kind = 7 → 0 ≤ c.other ∧ c.other < p.length) : Spec Tryz.prog 133 [encPlan p, c.enc] [] (iV (fitsE p c)) [] := by
 rcases kinds hk with k | k | k | k | k | k | k
 ·rw [show fitsE p c = 0 by simp [fitsE, k]]; exact fits_k p c hs (by omega)
 ·rw [show fitsE p c = 0 by simp [fitsE, k]]; exact fits_k p c hs (by omega)
 ·rw [show fitsE p c = 0 by simp [fitsE, k]]; exact fits_k p c hs (by omega)
 ·exact fits_k4 p c v hs (ho (.inl k)) k _ rfl
 ·exact fits_k5 p c v hs k _ rfl
 ·exact fits_k6 p c v hs k _ rfl
 ·exact fits_k7 p c v hs (ho (.inr k)) k _ rfl
theorem sp_Can (p : Plan) (c : Change) (v : Valid p) : Spec Tryz.prog 98 [encPlan p, c.enc] [] (iV (can p c)) [] := by
 have hp3 := v.len
 obtain ⟨x, hx, s1⟩ := sp_named p c (by omega)
 rw [can_named]
 by_cases e : namedErr p c = 0
 ·rw [if_pos e]
  rw [e] at s1
  have hx2 := hx e
  clear hx
  rw [← hx2]
  by_cases q : c = x
  ·rw [if_pos q]
   have q' : decide (c = x) = true := by simpa using q
   have hb : betw c.kind 1 7 = true ∧ betw c.street 0 ((p.length : Int) - 1) = true ∧ (c.kind = 4 ∨ c.kind = 7 → betw c.other 0 ((p.length : Int) - 1) = true) := by
    unfold namedErr at e
    split at e
    ·omega
    ·rename_i h1
     split at e
     ·omega
     ·rename_i h2
      split at e
      ·omega
      ·rename_i h3
       refine ⟨by simpa using h1, by simpa using h2, fun h => ?_⟩
       cases hh : betw c.other 0 ((p.length : Int) - 1) with
       | true => rfl
       | false => exact absurd ⟨h, hh⟩ h3
   have b1 := betw_iff.1 hb.1
   have b2 := betw_iff.1 hb.2.1
   have s2 := sp_rfits p c v b1 (by omega) (fun h => by have := betw_iff.1 (hb.2.2 h); omega)
   clear q hb b1 b2 e hx2
   refine spec_body Tryz.func98 rfl (fun E hE => ?_); simp only [go_sem, Tryz.ntmps98]
   repeat' (first | (with_reducible (show runOps ..); first | (refine Qr rfl ?_; try intro K' hK; try simp only [go_sem, *])) | (with_reducible (show Hold ..); first | refine Qh rfl ?_ | (refine s_cond rfl ⟨_, rfl, fun hb => ?_, fun hb => ?_⟩ <;> (have hc := hb; try simp only [go_sem] at hc)) | refine s_ret rfl ?_) | (with_reducible (show callA ..); first | ((first | refine call_s (s1) ?_ ?_ | refine call_s (s2) ?_ ?_); (focus (simp only [go_sem, *]; done)); simp only [go_sem, *])) | ((with_reducible refine Qb ?_ ?_); focus kernel_rfl) | ((with_reducible refine And.intro ?_ ?_); focus omega) | (refine contA_of hK ?_; clear hK K'; simp only [go_sem, *]) | (simp only [thenA, inBlockA, go_sem, *]))
   all_goals first | contradiction | skip
   (refine ⟨[_], [], [], ⟨rfl, trivial⟩, ?_⟩; simp only [go_sem, *])
  ·rw [if_neg q]
   have q' : decide (c = x) = false := by simpa using q
   clear q e hx2
   refine spec_body Tryz.func98 rfl (fun E hE => ?_); simp only [go_sem, Tryz.ntmps98]
   repeat' (first | (with_reducible (show runOps ..); first | (refine Qr rfl ?_; try intro K' hK; try simp only [go_sem, *])) | (with_reducible (show Hold ..); first | refine Qh rfl ?_ | (refine s_cond rfl ⟨_, rfl, fun hb => ?_, fun hb => ?_⟩ <;> (have hc := hb; try simp only [go_sem] at hc)) | refine s_ret rfl ?_) | (with_reducible (show callA ..); first | (refine call_s (s1) ?_ ?_; (focus (simp only [go_sem, *]; done)); simp only [go_sem, *])) | ((with_reducible refine Qb ?_ ?_); focus kernel_rfl) | ((with_reducible refine And.intro ?_ ?_); focus omega) | (refine contA_of hK ?_; clear hK K'; simp only [go_sem, *]) | (simp only [thenA, inBlockA, go_sem, *]))
   all_goals first | contradiction | skip
   (refine ⟨[_], [], [], ⟨rfl, trivial⟩, ?_⟩; simp only [go_sem, *])
 ·rw [if_neg e]
  have e' : (namedErr p c == 0) = false := by rw [beq_eq_false_iff_ne]; exact e
  clear hx
  generalize namedErr p c = er at *
  refine spec_body Tryz.func98 rfl (fun E hE => ?_); simp only [go_sem, Tryz.ntmps98]
  repeat' (first | (with_reducible (show runOps ..); first | (refine Qr rfl ?_; try intro K' hK; try simp only [go_sem, *])) | (with_reducible (show Hold ..); first | refine Qh rfl ?_ | (refine s_cond rfl ⟨_, rfl, fun hb => ?_, fun hb => ?_⟩ <;> (have hc := hb; try simp only [go_sem] at hc)) | refine s_ret rfl ?_) | (with_reducible (show callA ..); first | (refine call_s (s1) ?_ ?_; (focus (simp only [go_sem, *]; done)); simp only [go_sem, *])) | ((with_reducible refine Qb ?_ ?_); focus kernel_rfl) | ((with_reducible refine And.intro ?_ ?_); focus omega) | (refine contA_of hK ?_; clear hK K'; simp only [go_sem, *]) | (simp only [thenA, inBlockA, go_sem, *]))
  all_goals first | contradiction | skip
  (refine ⟨[_], [], [], ⟨rfl, trivial⟩, ?_⟩; simp only [go_sem, *])
end Go.Abs

namespace Go.Abs
open Go Go.Proofs
set_option maxRecDepth 10000
set_option maxHeartbeats 4000000
theorem tpar_own {l : List Plate} (h : Sound l) {x : Plate} (hx : x ∈ l) : l.filter (tparB (decide (x.number.tmod 2 = 1))) = l.filter (fun y => oddB y == oddB x) := by
 refine List.filter_congr (fun y hy => ?_)
 have := (ok_iff _).1 (h.ok _ hx)
 have := (ok_iff _).1 (h.ok _ hy)
 have e1 : x.number.tmod 2 = x.number % 2 := Int.tmod_eq_emod_of_nonneg (by omega)
 have e2 : y.number.tmod 2 = y.number % 2 := Int.tmod_eq_emod_of_nonneg (by omega)
 unfold tparB oddB
 rw [e1, e2]
 rfl
theorem to_k1 (p : Plan) (c : Change) (x : Plate) (v : Valid p) (hs : 0 ≤ c.street ∧ c.street < p.length) (hx : x ∈ rowAt p c.street) (k : c.kind = 1) : Spec Tryz.prog 141 [encPlan p, c.enc, x.enc] [] (encHouses (toP p c x)) [] := by
 generalize hRR : toP p c x = R
 unfold toP at hRR
 rw [if_pos k] at hRR
 have k1 : (c.kind == 1) = true := by rw [beq_iff_eq]; exact k
 clear k
 have hl := (v.row c.street).len
 have hxk := (ok_iff _).1 ((v.row c.street).ok _ hx)
 have hs' : c.street.toNat < p.length := by omega
 obtain ⟨hs0, hs1⟩ := hs
 have ho := tpar_own (v.row c.street) hx
 have sp := sp_parity (rowAt p c.street) (decide (x.number.tmod 2 = 1)) (by omega)
 rw [ho] at sp
 have hxo := mem_own hx
 have hol : ((rowAt p c.street).filter (fun y => oddB y == oddB x)).length ≤ 8 := Nat.le_trans (List.length_filter_le _ _) hl
 have e1 : x.number.tmod 2 = x.number % 2 := Int.tmod_eq_emod_of_nonneg (by omega)
 clear ho
 generalize (rowAt p c.street).filter (fun y => oddB y == oddB x) = o at *
 have si := sp_index o x (by omega)
 rw [idxP_of hxo] at si
 have hk := idx_lt hxo
 generalize o.idxOf x = kk at *
 have w1 : IntKind.i64.wrap ((o.length : Int) - 1) = ((o.length - 1 : Nat) : Int) := by rw [wrap_i64 (by omega) (by omega)]; omega
 have hj : o.length - 1 - kk < o.length := by omega
 have w2 : IntKind.i64.wrap (((o.length - 1 : Nat) : Int) - (kk : Int)) = ((o.length - 1 - kk : Nat) : Int) := by rw [wrap_i64 (by omega) (by omega)]; omega
 generalize o.length - 1 - kk = j at *
 subst hRR
 rw [e1] at sp
 refine spec_body Tryz.func141 rfl (fun E hE => ?_); simp only [go_sem, Tryz.ntmps141]
 repeat' (first | (with_reducible (show runOps ..); first | (refine Qr rfl ?_; try intro K' hK; try simp only [go_sem, *]) | (refine Qi rfl rfl rfl rfl (fun hb K' hK => ?_) (fun hb => ?_) <;> (have hc := hb; try simp only [go_sem] at hc; simp only [go_sem, *]))) | (with_reducible (show Hold ..); first | refine Qh rfl ?_ | refine s_draw rfl Tryz.mixed (by kernel_rfl) ?_ | (refine s_cond rfl ⟨_, rfl, fun hb => ?_, fun hb => ?_⟩ <;> (have hc := hb; try simp only [go_sem] at hc)) | refine s_ret rfl ?_) | (with_reducible (show callA ..); first | (refine call_n (sp) ?_ ?_ ?_ ?_; (focus (simp only [go_sem, *]; done)); (focus (first | (simp; done) | (simp [go_sem]; done))); (focus (first | (simp; done) | (simp [go_sem]; done))); simp only [go_sem, *])) | ((with_reducible refine Qb ?_ ?_); focus kernel_rfl) | ((with_reducible refine And.intro ?_ ?_); focus omega) | (refine contA_of hK ?_; clear hK K'; simp only [go_sem, *]) | (simp only [thenA, inBlockA, go_sem, *]))
 all_goals first | contradiction | omega | skip
 (refine call_x [3] (si) (by simp only [go_sem, *]) (by first | exact .raw _) ?_; simp only [go_sem, *])
 repeat' (first | (with_reducible (show runOps ..); first | (refine Qr rfl ?_; try intro K' hK; try simp only [go_sem, *]) | (refine Qi rfl rfl rfl rfl (fun hb K' hK => ?_) (fun hb => ?_) <;> (have hc := hb; try simp only [go_sem] at hc; simp only [go_sem, *]))) | (with_reducible (show Hold ..); first | refine Qh rfl ?_ | refine s_draw rfl Tryz.mixed (by kernel_rfl) ?_ | (refine s_cond rfl ⟨_, rfl, fun hb => ?_, fun hb => ?_⟩ <;> (have hc := hb; try simp only [go_sem] at hc)) | refine s_ret rfl ?_) | ((with_reducible refine Qb ?_ ?_); focus kernel_rfl) | ((with_reducible refine And.intro ?_ ?_); focus omega) | (refine contA_of hK ?_; clear hK K'; simp only [go_sem, *]) | (simp only [thenA, inBlockA, go_sem, *]))
 all_goals first | contradiction | omega | skip
 refine ⟨[.own 5 3 0 1], [], [5], ⟨by simp only [resOne, go_sem], trivial⟩, ?_⟩
 simp only [go_sem, *]
theorem to_k2 (p : Plan) (c : Change) (x : Plate) (v : Valid p) (hs : 0 ≤ c.street ∧ c.street < p.length) (hx : x ∈ rowAt p c.street) (k : c.kind = 2) : Spec Tryz.prog 141 [encPlan p, c.enc, x.enc] [] (encHouses (toP p c x)) [] := by
 generalize hRR : toP p c x = R
 unfold toP at hRR
 rw [if_neg (by omega : ¬ c.kind = 1)] at hRR
 rw [if_pos k] at hRR
 have k2 : (c.kind == 2) = true := by rw [beq_iff_eq]; exact k
 have k1 : (c.kind == 1) = false := by rw [beq_eq_false_iff_ne]; omega
 clear k
 have hl := (v.row c.street).len
 have hxk := (ok_iff _).1 ((v.row c.street).ok _ hx)
 have hs' : c.street.toNat < p.length := by omega
 obtain ⟨hs0, hs1⟩ := hs
 have ho := tpar_own (v.row c.street) hx
 have sp := sp_parity (rowAt p c.street) (decide (x.number.tmod 2 = 1)) (by omega)
 rw [ho] at sp
 have hxo := mem_own hx
 have hol : ((rowAt p c.street).filter (fun y => oddB y == oddB x)).length ≤ 8 := Nat.le_trans (List.length_filter_le _ _) hl
 have e1 : x.number.tmod 2 = x.number % 2 := Int.tmod_eq_emod_of_nonneg (by omega)
 clear ho
 generalize (rowAt p c.street).filter (fun y => oddB y == oddB x) = o at *
 have si := sp_index o x (by omega)
 rw [idxP_of hxo] at si
 have hk := idx_lt hxo
 generalize o.idxOf x = kk at *
 have w1 : IntKind.i64.wrap (x.number + 1) = x.number + 1 := wrap_i64 (by omega) (by omega)
 have w2 : IntKind.i64.wrap (x.number - 1) = x.number - 1 := wrap_i64 (by omega) (by omega)
 by_cases q : x.number % 2 = 1
 ·rw [if_pos ((oddB_iff x).2 q)] at hRR
  have q' : (x.number % 2 == 1) = true := by rw [beq_iff_eq]; exact q
  rw [e1, decide_eq_true q] at sp
  clear q
  subst hRR
  refine spec_body Tryz.func141 rfl (fun E hE => ?_); simp only [go_sem, Tryz.ntmps141]
  repeat' (first | (with_reducible (show runOps ..); first | (refine Qr rfl ?_; try intro K' hK; try simp only [go_sem, *]) | (refine Qi rfl rfl rfl rfl (fun hb K' hK => ?_) (fun hb => ?_) <;> (have hc := hb; try simp only [go_sem] at hc; simp only [go_sem, *]))) | (with_reducible (show Hold ..); first | refine Qh rfl ?_ | refine s_draw rfl Tryz.mixed (by kernel_rfl) ?_ | (refine s_cond rfl ⟨_, rfl, fun hb => ?_, fun hb => ?_⟩ <;> (have hc := hb; try simp only [go_sem] at hc)) | refine s_ret rfl ?_) | (with_reducible (show callA ..); first | (refine call_n (sp) ?_ ?_ ?_ ?_; (focus (simp only [go_sem, *]; done)); (focus (first | (simp; done) | (simp [go_sem]; done))); (focus (first | (simp; done) | (simp [go_sem]; done))); simp only [go_sem, *])) | ((with_reducible refine Qb ?_ ?_); focus kernel_rfl) | ((with_reducible refine And.intro ?_ ?_); focus omega) | (refine contA_of hK ?_; clear hK K'; simp only [go_sem, *]) | (simp only [thenA, inBlockA, go_sem, *]))
  all_goals first | contradiction | omega | skip
  (refine call_x [3] (si) (by simp only [go_sem, *]) (by first | exact .raw _) ?_; simp only [go_sem, *])
  repeat' (first | (with_reducible (show runOps ..); first | (refine Qr rfl ?_; try intro K' hK; try simp only [go_sem, *]) | (refine Qi rfl rfl rfl rfl (fun hb K' hK => ?_) (fun hb => ?_) <;> (have hc := hb; try simp only [go_sem] at hc; simp only [go_sem, *]))) | (with_reducible (show Hold ..); first | refine Qh rfl ?_ | refine s_draw rfl Tryz.mixed (by kernel_rfl) ?_ | (refine s_cond rfl ⟨_, rfl, fun hb => ?_, fun hb => ?_⟩ <;> (have hc := hb; try simp only [go_sem] at hc)) | refine s_ret rfl ?_) | ((with_reducible refine Qb ?_ ?_); focus kernel_rfl) | ((with_reducible refine And.intro ?_ ?_); focus omega) | (refine contA_of hK ?_; clear hK K'; simp only [go_sem, *]) | (simp only [thenA, inBlockA, go_sem, *]))
  all_goals first | contradiction | omega | skip
  refine ⟨[.own 5 3 0 1], [], [5], ⟨by simp only [resOne, go_sem], trivial⟩, ?_⟩
  simp only [go_sem, *]
 ·rw [if_neg (fun h => q ((oddB_iff x).1 h))] at hRR
  have q' : (x.number % 2 == 1) = false := by rw [beq_eq_false_iff_ne]; exact q
  rw [e1, decide_eq_false q] at sp
  clear q
  subst hRR
  refine spec_body Tryz.func141 rfl (fun E hE => ?_); simp only [go_sem, Tryz.ntmps141]
  repeat' (first | (with_reducible (show runOps ..); first | (refine Qr rfl ?_; try intro K' hK; try simp only [go_sem, *]) | (refine Qi rfl rfl rfl rfl (fun hb K' hK => ?_) (fun hb => ?_) <;> (have hc := hb; try simp only [go_sem] at hc; simp only [go_sem, *]))) | (with_reducible (show Hold ..); first | refine Qh rfl ?_ | refine s_draw rfl Tryz.mixed (by kernel_rfl) ?_ | (refine s_cond rfl ⟨_, rfl, fun hb => ?_, fun hb => ?_⟩ <;> (have hc := hb; try simp only [go_sem] at hc)) | refine s_ret rfl ?_) | (with_reducible (show callA ..); first | (refine call_n (sp) ?_ ?_ ?_ ?_; (focus (simp only [go_sem, *]; done)); (focus (first | (simp; done) | (simp [go_sem]; done))); (focus (first | (simp; done) | (simp [go_sem]; done))); simp only [go_sem, *])) | ((with_reducible refine Qb ?_ ?_); focus kernel_rfl) | ((with_reducible refine And.intro ?_ ?_); focus omega) | (refine contA_of hK ?_; clear hK K'; simp only [go_sem, *]) | (simp only [thenA, inBlockA, go_sem, *]))
  all_goals first | contradiction | omega | skip
  (refine call_x [3] (si) (by simp only [go_sem, *]) (by first | exact .raw _) ?_; simp only [go_sem, *])
  repeat' (first | (with_reducible (show runOps ..); first | (refine Qr rfl ?_; try intro K' hK; try simp only [go_sem, *]) | (refine Qi rfl rfl rfl rfl (fun hb K' hK => ?_) (fun hb => ?_) <;> (have hc := hb; try simp only [go_sem] at hc; simp only [go_sem, *]))) | (with_reducible (show Hold ..); first | refine Qh rfl ?_ | refine s_draw rfl Tryz.mixed (by kernel_rfl) ?_ | (refine s_cond rfl ⟨_, rfl, fun hb => ?_, fun hb => ?_⟩ <;> (have hc := hb; try simp only [go_sem] at hc)) | refine s_ret rfl ?_) | ((with_reducible refine Qb ?_ ?_); focus kernel_rfl) | ((with_reducible refine And.intro ?_ ?_); focus omega) | (refine contA_of hK ?_; clear hK K'; simp only [go_sem, *]) | (simp only [thenA, inBlockA, go_sem, *]))
  all_goals first | contradiction | omega | skip
  refine ⟨[.own 5 3 0 1], [], [5], ⟨by simp only [resOne, go_sem], trivial⟩, ?_⟩
  simp only [go_sem, *]
theorem to_k3 (p : Plan) (c : Change) (x : Plate) (v : Valid p) (hs : 0 ≤ c.street ∧ c.street < p.length) (hx : x ∈ rowAt p c.street) (k : c.kind = 3) : Spec Tryz.prog 141 [encPlan p, c.enc, x.enc] [] (encHouses (toP p c x)) [] := by
 generalize hRR : toP p c x = R
 unfold toP at hRR
 rw [if_neg (by omega : ¬ c.kind = 1)] at hRR
 rw [if_neg (by omega : ¬ c.kind = 2)] at hRR
 rw [if_pos k] at hRR
 have k3 : (c.kind == 3) = true := by rw [beq_iff_eq]; exact k
 have k1 : (c.kind == 1) = false := by rw [beq_eq_false_iff_ne]; omega
 have k2 : (c.kind == 2) = false := by rw [beq_eq_false_iff_ne]; omega
 clear k
 have hl := (v.row c.street).len
 have hxk := (ok_iff _).1 ((v.row c.street).ok _ hx)
 have hs' : c.street.toNat < p.length := by omega
 obtain ⟨hs0, hs1⟩ := hs
 have ho := tpar_own (v.row c.street) hx
 have sp := sp_parity (rowAt p c.street) (decide (x.number.tmod 2 = 1)) (by omega)
 rw [ho] at sp
 have hxo := mem_own hx
 have hol : ((rowAt p c.street).filter (fun y => oddB y == oddB x)).length ≤ 8 := Nat.le_trans (List.length_filter_le _ _) hl
 have e1 : x.number.tmod 2 = x.number % 2 := Int.tmod_eq_emod_of_nonneg (by omega)
 clear ho
 generalize (rowAt p c.street).filter (fun y => oddB y == oddB x) = o at *
 have si := sp_index o x (by omega)
 rw [idxP_of hxo] at si
 have hk := idx_lt hxo
 generalize o.idxOf x = kk at *
 have w1 : IntKind.i64.wrap (2 * (kk : Int)) = 2 * (kk : Int) := wrap_i64 (by omega) (by omega)
 have w2 : IntKind.i64.wrap (2 * (kk : Int) + 2) = 2 * (kk : Int) + 2 := wrap_i64 (by omega) (by omega)
 have w3 : IntKind.i64.wrap (2 * (kk : Int) + 2 - x.number % 2) = 2 * (kk : Int) + 2 - x.number % 2 := wrap_i64 (by omega) (by omega)
 subst hRR
 rw [e1] at sp
 refine spec_body Tryz.func141 rfl (fun E hE => ?_); simp only [go_sem, Tryz.ntmps141]
 repeat' (first | (with_reducible (show runOps ..); first | (refine Qr rfl ?_; try intro K' hK; try simp only [go_sem, *]) | (refine Qi rfl rfl rfl rfl (fun hb K' hK => ?_) (fun hb => ?_) <;> (have hc := hb; try simp only [go_sem] at hc; simp only [go_sem, *]))) | (with_reducible (show Hold ..); first | refine Qh rfl ?_ | refine s_draw rfl Tryz.mixed (by kernel_rfl) ?_ | (refine s_cond rfl ⟨_, rfl, fun hb => ?_, fun hb => ?_⟩ <;> (have hc := hb; try simp only [go_sem] at hc)) | refine s_ret rfl ?_) | (with_reducible (show callA ..); first | (refine call_n (sp) ?_ ?_ ?_ ?_; (focus (simp only [go_sem, *]; done)); (focus (first | (simp; done) | (simp [go_sem]; done))); (focus (first | (simp; done) | (simp [go_sem]; done))); simp only [go_sem, *])) | ((with_reducible refine Qb ?_ ?_); focus kernel_rfl) | ((with_reducible refine And.intro ?_ ?_); focus omega) | (refine contA_of hK ?_; clear hK K'; simp only [go_sem, *]) | (simp only [thenA, inBlockA, go_sem, *]))
 all_goals first | contradiction | omega | skip
 (refine call_x [3] (si) (by simp only [go_sem, *]) (by first | exact .raw _) ?_; simp only [go_sem, *])
 repeat' (first | (with_reducible (show runOps ..); first | (refine Qr rfl ?_; try intro K' hK; try simp only [go_sem, *]) | (refine Qi rfl rfl rfl rfl (fun hb K' hK => ?_) (fun hb => ?_) <;> (have hc := hb; try simp only [go_sem] at hc; simp only [go_sem, *]))) | (with_reducible (show Hold ..); first | refine Qh rfl ?_ | refine s_draw rfl Tryz.mixed (by kernel_rfl) ?_ | (refine s_cond rfl ⟨_, rfl, fun hb => ?_, fun hb => ?_⟩ <;> (have hc := hb; try simp only [go_sem] at hc)) | refine s_ret rfl ?_) | ((with_reducible refine Qb ?_ ?_); focus kernel_rfl) | ((with_reducible refine And.intro ?_ ?_); focus omega) | (refine contA_of hK ?_; clear hK K'; simp only [go_sem, *]) | (simp only [thenA, inBlockA, go_sem, *]))
 all_goals first | contradiction | omega | skip
 refine ⟨[.own 5 3 0 1], [], [5], ⟨by simp only [resOne, go_sem], trivial⟩, ?_⟩
 simp only [go_sem, *]
theorem to_k4 (p : Plan) (c : Change) (x : Plate) (v : Valid p) (hs : 0 ≤ c.street ∧ c.street < p.length) (hq : 0 ≤ c.other ∧ c.other < p.length) (hx : x ∈ rowAt p c.street) (k : c.kind = 4) : Spec Tryz.prog 141 [encPlan p, c.enc, x.enc] [] (encHouses (toP p c x)) [] := by
 generalize hRR : toP p c x = R
 unfold toP at hRR
 rw [if_neg (by omega : ¬ c.kind = 1)] at hRR
 rw [if_neg (by omega : ¬ c.kind = 2)] at hRR
 rw [if_neg (by omega : ¬ c.kind = 3)] at hRR
 rw [if_pos k] at hRR
 have k4 : (c.kind == 4) = true := by rw [beq_iff_eq]; exact k
 have k1 : (c.kind == 1) = false := by rw [beq_eq_false_iff_ne]; omega
 have k2 : (c.kind == 2) = false := by rw [beq_eq_false_iff_ne]; omega
 have k3 : (c.kind == 3) = false := by rw [beq_eq_false_iff_ne]; omega
 clear k
 have hl := (v.row c.street).len
 have hxk := (ok_iff _).1 ((v.row c.street).ok _ hx)
 have hs' : c.street.toNat < p.length := by omega
 obtain ⟨hs0, hs1⟩ := hs
 have ho := tpar_own (v.row c.street) hx
 have sp := sp_parity (rowAt p c.street) (decide (x.number.tmod 2 = 1)) (by omega)
 rw [ho] at sp
 have hxo := mem_own hx
 have hol : ((rowAt p c.street).filter (fun y => oddB y == oddB x)).length ≤ 8 := Nat.le_trans (List.length_filter_le _ _) hl
 have e1 : x.number.tmod 2 = x.number % 2 := Int.tmod_eq_emod_of_nonneg (by omega)
 clear ho
 generalize (rowAt p c.street).filter (fun y => oddB y == oddB x) = o at *
 have si := sp_index o x (by omega)
 rw [idxP_of hxo] at si
 have hk := idx_lt hxo
 generalize o.idxOf x = kk at *
 have hob := base_le (v.row c.other)
 have sb := sp_base (rowAt p c.other) (by have := (v.row c.other).len; omega) (v.row c.other).ok
 have ho' : c.other.toNat < p.length := by omega
 obtain ⟨ho0, ho1⟩ := hq
 generalize base (rowAt p c.other) = bb at *
 have w1 : IntKind.i64.wrap (x.number + bb) = x.number + bb := wrap_i64 (by omega) (by omega)
 subst hRR
 rw [e1] at sp
 refine spec_body Tryz.func141 rfl (fun E hE => ?_); simp only [go_sem, Tryz.ntmps141]
 repeat' (first | (with_reducible (show runOps ..); first | (refine Qr rfl ?_; try intro K' hK; try simp only [go_sem, *]) | (refine Qi rfl rfl rfl rfl (fun hb K' hK => ?_) (fun hb => ?_) <;> (have hc := hb; try simp only [go_sem] at hc; simp only [go_sem, *]))) | (with_reducible (show Hold ..); first | refine Qh rfl ?_ | refine s_draw rfl Tryz.mixed (by kernel_rfl) ?_ | (refine s_cond rfl ⟨_, rfl, fun hb => ?_, fun hb => ?_⟩ <;> (have hc := hb; try simp only [go_sem] at hc)) | refine s_ret rfl ?_) | (with_reducible (show callA ..); first | (refine call_n (sp) ?_ ?_ ?_ ?_; (focus (simp only [go_sem, *]; done)); (focus (first | (simp; done) | (simp [go_sem]; done))); (focus (first | (simp; done) | (simp [go_sem]; done))); simp only [go_sem, *])) | ((with_reducible refine Qb ?_ ?_); focus kernel_rfl) | ((with_reducible refine And.intro ?_ ?_); focus omega) | (refine contA_of hK ?_; clear hK K'; simp only [go_sem, *]) | (simp only [thenA, inBlockA, go_sem, *]))
 all_goals first | contradiction | omega | skip
 (refine call_x [3] (si) (by simp only [go_sem, *]) (by first | exact .raw _) ?_; simp only [go_sem, *])
 repeat' (first | (with_reducible (show runOps ..); first | (refine Qr rfl ?_; try intro K' hK; try simp only [go_sem, *]) | (refine Qi rfl rfl rfl rfl (fun hb K' hK => ?_) (fun hb => ?_) <;> (have hc := hb; try simp only [go_sem] at hc; simp only [go_sem, *]))) | (with_reducible (show Hold ..); first | refine Qh rfl ?_ | refine s_draw rfl Tryz.mixed (by kernel_rfl) ?_ | (refine s_cond rfl ⟨_, rfl, fun hb => ?_, fun hb => ?_⟩ <;> (have hc := hb; try simp only [go_sem] at hc)) | refine s_ret rfl ?_) | (with_reducible (show callA ..); first | (refine call_s (sb) ?_ ?_; (focus (simp only [go_sem, *]; done)); simp only [go_sem, *])) | ((with_reducible refine Qb ?_ ?_); focus kernel_rfl) | ((with_reducible refine And.intro ?_ ?_); focus omega) | (refine contA_of hK ?_; clear hK K'; simp only [go_sem, *]) | (simp only [thenA, inBlockA, go_sem, *]))
 all_goals first | contradiction | omega | skip
 refine ⟨[.own 5 3 0 1], [], [5], ⟨by simp only [resOne, go_sem], trivial⟩, ?_⟩
 simp only [go_sem, *]
theorem to_k5 (p : Plan) (c : Change) (x : Plate) (v : Valid p) (hs : 0 ≤ c.street ∧ c.street < p.length) (hx : x ∈ rowAt p c.street) (k : c.kind = 5) : Spec Tryz.prog 141 [encPlan p, c.enc, x.enc] [] (encHouses (toP p c x)) [] := by
 generalize hRR : toP p c x = R
 unfold toP at hRR
 rw [if_neg (by omega : ¬ c.kind = 1)] at hRR
 rw [if_neg (by omega : ¬ c.kind = 2)] at hRR
 rw [if_neg (by omega : ¬ c.kind = 3)] at hRR
 rw [if_neg (by omega : ¬ c.kind = 4)] at hRR
 rw [if_pos k] at hRR
 have k5 : (c.kind == 5) = true := by rw [beq_iff_eq]; exact k
 have k1 : (c.kind == 1) = false := by rw [beq_eq_false_iff_ne]; omega
 have k2 : (c.kind == 2) = false := by rw [beq_eq_false_iff_ne]; omega
 have k3 : (c.kind == 3) = false := by rw [beq_eq_false_iff_ne]; omega
 have k4 : (c.kind == 4) = false := by rw [beq_eq_false_iff_ne]; omega
 clear k
 have hl := (v.row c.street).len
 have hxk := (ok_iff _).1 ((v.row c.street).ok _ hx)
 have hs' : c.street.toNat < p.length := by omega
 obtain ⟨hs0, hs1⟩ := hs
 have ho := tpar_own (v.row c.street) hx
 have sp := sp_parity (rowAt p c.street) (decide (x.number.tmod 2 = 1)) (by omega)
 rw [ho] at sp
 have hxo := mem_own hx
 have hol : ((rowAt p c.street).filter (fun y => oddB y == oddB x)).length ≤ 8 := Nat.le_trans (List.length_filter_le _ _) hl
 have e1 : x.number.tmod 2 = x.number % 2 := Int.tmod_eq_emod_of_nonneg (by omega)
 clear ho
 generalize (rowAt p c.street).filter (fun y => oddB y == oddB x) = o at *
 have si := sp_index o x (by omega)
 rw [idxP_of hxo] at si
 have hk := idx_lt hxo
 generalize o.idxOf x = kk at *
 have sl := sp_letter (rowAt p c.street) x.number (by omega)
 generalize letter (rowAt p c.street) x.number = lt at *
 rw [e1] at sp
 by_cases q : x = c.src
 ·rw [if_pos q] at hRR
  have q' : decide (x = c.src) = true := decide_eq_true q
  clear q
  subst hRR
  refine spec_body Tryz.func141 rfl (fun E hE => ?_); simp only [go_sem, Tryz.ntmps141]
  repeat' (first | (with_reducible (show runOps ..); first | (refine Qr rfl ?_; try intro K' hK; try simp only [go_sem, *]) | (refine Qi rfl rfl rfl rfl (fun hb K' hK => ?_) (fun hb => ?_) <;> (have hc := hb; try simp only [go_sem] at hc; simp only [go_sem, *]))) | (with_reducible (show Hold ..); first | refine Qh rfl ?_ | refine s_draw rfl Tryz.mixed (by kernel_rfl) ?_ | (refine s_cond rfl ⟨_, rfl, fun hb => ?_, fun hb => ?_⟩ <;> (have hc := hb; try simp only [go_sem] at hc)) | refine s_ret rfl ?_) | (with_reducible (show callA ..); first | (refine call_n (sp) ?_ ?_ ?_ ?_; (focus (simp only [go_sem, *]; done)); (focus (first | (simp; done) | (simp [go_sem]; done))); (focus (first | (simp; done) | (simp [go_sem]; done))); simp only [go_sem, *])) | ((with_reducible refine Qb ?_ ?_); focus kernel_rfl) | ((with_reducible refine And.intro ?_ ?_); focus omega) | (refine contA_of hK ?_; clear hK K'; simp only [go_sem, *]) | (simp only [thenA, inBlockA, go_sem, *]))
  all_goals first | contradiction | omega | skip
  (refine call_x [3] (si) (by simp only [go_sem, *]) (by first | exact .raw _) ?_; simp only [go_sem, *])
  repeat' (first | (with_reducible (show runOps ..); first | (refine Qr rfl ?_; try intro K' hK; try simp only [go_sem, *]) | (refine Qi rfl rfl rfl rfl (fun hb K' hK => ?_) (fun hb => ?_) <;> (have hc := hb; try simp only [go_sem] at hc; simp only [go_sem, *]))) | (with_reducible (show Hold ..); first | refine Qh rfl ?_ | refine s_draw rfl Tryz.mixed (by kernel_rfl) ?_ | (refine s_cond rfl ⟨_, rfl, fun hb => ?_, fun hb => ?_⟩ <;> (have hc := hb; try simp only [go_sem] at hc)) | refine s_ret rfl ?_) | (with_reducible (show callA ..); first | (refine call_s (sl) ?_ ?_; (focus (simp only [go_sem, *]; done)); simp only [go_sem, *])) | ((with_reducible refine Qb ?_ ?_); focus kernel_rfl) | ((with_reducible refine And.intro ?_ ?_); focus omega) | (refine contA_of hK ?_; clear hK K'; simp only [go_sem, *]) | (simp only [thenA, inBlockA, go_sem, *]))
  all_goals first | contradiction | omega | skip
  refine ⟨[.own 5 3 0 2], [], [5], ⟨by simp only [resOne, go_sem], trivial⟩, ?_⟩
  simp only [go_sem, *]
 ·rw [if_neg q] at hRR
  have q' : decide (x = c.src) = false := decide_eq_false q
  clear q
  subst hRR
  refine spec_body Tryz.func141 rfl (fun E hE => ?_); simp only [go_sem, Tryz.ntmps141]
  repeat' (first | (with_reducible (show runOps ..); first | (refine Qr rfl ?_; try intro K' hK; try simp only [go_sem, *]) | (refine Qi rfl rfl rfl rfl (fun hb K' hK => ?_) (fun hb => ?_) <;> (have hc := hb; try simp only [go_sem] at hc; simp only [go_sem, *]))) | (with_reducible (show Hold ..); first | refine Qh rfl ?_ | refine s_draw rfl Tryz.mixed (by kernel_rfl) ?_ | (refine s_cond rfl ⟨_, rfl, fun hb => ?_, fun hb => ?_⟩ <;> (have hc := hb; try simp only [go_sem] at hc)) | refine s_ret rfl ?_) | (with_reducible (show callA ..); first | (refine call_n (sp) ?_ ?_ ?_ ?_; (focus (simp only [go_sem, *]; done)); (focus (first | (simp; done) | (simp [go_sem]; done))); (focus (first | (simp; done) | (simp [go_sem]; done))); simp only [go_sem, *])) | ((with_reducible refine Qb ?_ ?_); focus kernel_rfl) | ((with_reducible refine And.intro ?_ ?_); focus omega) | (refine contA_of hK ?_; clear hK K'; simp only [go_sem, *]) | (simp only [thenA, inBlockA, go_sem, *]))
  all_goals first | contradiction | omega | skip
  (refine call_x [3] (si) (by simp only [go_sem, *]) (by first | exact .raw _) ?_; simp only [go_sem, *])
  repeat' (first | (with_reducible (show runOps ..); first | (refine Qr rfl ?_; try intro K' hK; try simp only [go_sem, *]) | (refine Qi rfl rfl rfl rfl (fun hb K' hK => ?_) (fun hb => ?_) <;> (have hc := hb; try simp only [go_sem] at hc; simp only [go_sem, *]))) | (with_reducible (show Hold ..); first | refine Qh rfl ?_ | refine s_draw rfl Tryz.mixed (by kernel_rfl) ?_ | (refine s_cond rfl ⟨_, rfl, fun hb => ?_, fun hb => ?_⟩ <;> (have hc := hb; try simp only [go_sem] at hc)) | refine s_ret rfl ?_) | ((with_reducible refine Qb ?_ ?_); focus kernel_rfl) | ((with_reducible refine And.intro ?_ ?_); focus omega) | (refine contA_of hK ?_; clear hK K'; simp only [go_sem, *]) | (simp only [thenA, inBlockA, go_sem, *]))
  all_goals first | contradiction | omega | skip
  refine ⟨[.own 5 3 0 1], [], [5], ⟨by simp only [resOne, go_sem], trivial⟩, ?_⟩
  simp only [go_sem, *]
theorem to_k6 (p : Plan) (c : Change) (x : Plate) (v : Valid p) (hs : 0 ≤ c.street ∧ c.street < p.length) (hx : x ∈ rowAt p c.street) (k : c.kind = 6) : Spec Tryz.prog 141 [encPlan p, c.enc, x.enc] [] (encHouses (toP p c x)) [] := by
 generalize hRR : toP p c x = R
 unfold toP at hRR
 rw [if_neg (by omega : ¬ c.kind = 1)] at hRR
 rw [if_neg (by omega : ¬ c.kind = 2)] at hRR
 rw [if_neg (by omega : ¬ c.kind = 3)] at hRR
 rw [if_neg (by omega : ¬ c.kind = 4)] at hRR
 rw [if_neg (by omega : ¬ c.kind = 5)] at hRR
 rw [if_pos k] at hRR
 have k6 : (c.kind == 6) = true := by rw [beq_iff_eq]; exact k
 have k1 : (c.kind == 1) = false := by rw [beq_eq_false_iff_ne]; omega
 have k2 : (c.kind == 2) = false := by rw [beq_eq_false_iff_ne]; omega
 have k3 : (c.kind == 3) = false := by rw [beq_eq_false_iff_ne]; omega
 have k4 : (c.kind == 4) = false := by rw [beq_eq_false_iff_ne]; omega
 have k5 : (c.kind == 5) = false := by rw [beq_eq_false_iff_ne]; omega
 clear k
 have hl := (v.row c.street).len
 have hxk := (ok_iff _).1 ((v.row c.street).ok _ hx)
 have hs' : c.street.toNat < p.length := by omega
 obtain ⟨hs0, hs1⟩ := hs
 have ho := tpar_own (v.row c.street) hx
 have sp := sp_parity (rowAt p c.street) (decide (x.number.tmod 2 = 1)) (by omega)
 rw [ho] at sp
 have hxo := mem_own hx
 have hol : ((rowAt p c.street).filter (fun y => oddB y == oddB x)).length ≤ 8 := Nat.le_trans (List.length_filter_le _ _) hl
 have e1 : x.number.tmod 2 = x.number % 2 := Int.tmod_eq_emod_of_nonneg (by omega)
 clear ho
 generalize (rowAt p c.street).filter (fun y => oddB y == oddB x) = o at *
 have si := sp_index o x (by omega)
 rw [idxP_of hxo] at si
 have hk := idx_lt hxo
 generalize o.idxOf x = kk at *
 rw [e1] at sp
 by_cases q : x = c.src
 ·rw [if_pos q] at hRR
  have q' : decide (x = c.src) = true := decide_eq_true q
  clear q
  subst hRR
  refine spec_body Tryz.func141 rfl (fun E hE => ?_); simp only [go_sem, Tryz.ntmps141]
  repeat' (first | (with_reducible (show runOps ..); first | (refine Qr rfl ?_; try intro K' hK; try simp only [go_sem, *]) | (refine Qi rfl rfl rfl rfl (fun hb K' hK => ?_) (fun hb => ?_) <;> (have hc := hb; try simp only [go_sem] at hc; simp only [go_sem, *]))) | (with_reducible (show Hold ..); first | refine Qh rfl ?_ | refine s_draw rfl Tryz.mixed (by kernel_rfl) ?_ | (refine s_cond rfl ⟨_, rfl, fun hb => ?_, fun hb => ?_⟩ <;> (have hc := hb; try simp only [go_sem] at hc)) | refine s_ret rfl ?_) | (with_reducible (show callA ..); first | (refine call_n (sp) ?_ ?_ ?_ ?_; (focus (simp only [go_sem, *]; done)); (focus (first | (simp; done) | (simp [go_sem]; done))); (focus (first | (simp; done) | (simp [go_sem]; done))); simp only [go_sem, *])) | ((with_reducible refine Qb ?_ ?_); focus kernel_rfl) | ((with_reducible refine And.intro ?_ ?_); focus omega) | (refine contA_of hK ?_; clear hK K'; simp only [go_sem, *]) | (simp only [thenA, inBlockA, go_sem, *]))
  all_goals first | contradiction | omega | skip
  (refine call_x [3] (si) (by simp only [go_sem, *]) (by first | exact .raw _) ?_; simp only [go_sem, *])
  repeat' (first | (with_reducible (show runOps ..); first | (refine Qr rfl ?_; try intro K' hK; try simp only [go_sem, *]) | (refine Qi rfl rfl rfl rfl (fun hb K' hK => ?_) (fun hb => ?_) <;> (have hc := hb; try simp only [go_sem] at hc; simp only [go_sem, *]))) | (with_reducible (show Hold ..); first | refine Qh rfl ?_ | refine s_draw rfl Tryz.mixed (by kernel_rfl) ?_ | (refine s_cond rfl ⟨_, rfl, fun hb => ?_, fun hb => ?_⟩ <;> (have hc := hb; try simp only [go_sem] at hc)) | refine s_ret rfl ?_) | ((with_reducible refine Qb ?_ ?_); focus kernel_rfl) | ((with_reducible refine And.intro ?_ ?_); focus omega) | (refine contA_of hK ?_; clear hK K'; simp only [go_sem, *]) | (simp only [thenA, inBlockA, go_sem, *]))
  all_goals first | contradiction | omega | skip
  refine ⟨[nilV], [], [], ⟨by simp only [resOne, go_sem], trivial⟩, ?_⟩
  simp only [go_sem, *]
 ·rw [if_neg q] at hRR
  have q' : decide (x = c.src) = false := decide_eq_false q
  clear q
  subst hRR
  refine spec_body Tryz.func141 rfl (fun E hE => ?_); simp only [go_sem, Tryz.ntmps141]
  repeat' (first | (with_reducible (show runOps ..); first | (refine Qr rfl ?_; try intro K' hK; try simp only [go_sem, *]) | (refine Qi rfl rfl rfl rfl (fun hb K' hK => ?_) (fun hb => ?_) <;> (have hc := hb; try simp only [go_sem] at hc; simp only [go_sem, *]))) | (with_reducible (show Hold ..); first | refine Qh rfl ?_ | refine s_draw rfl Tryz.mixed (by kernel_rfl) ?_ | (refine s_cond rfl ⟨_, rfl, fun hb => ?_, fun hb => ?_⟩ <;> (have hc := hb; try simp only [go_sem] at hc)) | refine s_ret rfl ?_) | (with_reducible (show callA ..); first | (refine call_n (sp) ?_ ?_ ?_ ?_; (focus (simp only [go_sem, *]; done)); (focus (first | (simp; done) | (simp [go_sem]; done))); (focus (first | (simp; done) | (simp [go_sem]; done))); simp only [go_sem, *])) | ((with_reducible refine Qb ?_ ?_); focus kernel_rfl) | ((with_reducible refine And.intro ?_ ?_); focus omega) | (refine contA_of hK ?_; clear hK K'; simp only [go_sem, *]) | (simp only [thenA, inBlockA, go_sem, *]))
  all_goals first | contradiction | omega | skip
  (refine call_x [3] (si) (by simp only [go_sem, *]) (by first | exact .raw _) ?_; simp only [go_sem, *])
  repeat' (first | (with_reducible (show runOps ..); first | (refine Qr rfl ?_; try intro K' hK; try simp only [go_sem, *]) | (refine Qi rfl rfl rfl rfl (fun hb K' hK => ?_) (fun hb => ?_) <;> (have hc := hb; try simp only [go_sem] at hc; simp only [go_sem, *]))) | (with_reducible (show Hold ..); first | refine Qh rfl ?_ | refine s_draw rfl Tryz.mixed (by kernel_rfl) ?_ | (refine s_cond rfl ⟨_, rfl, fun hb => ?_, fun hb => ?_⟩ <;> (have hc := hb; try simp only [go_sem] at hc)) | refine s_ret rfl ?_) | ((with_reducible refine Qb ?_ ?_); focus kernel_rfl) | ((with_reducible refine And.intro ?_ ?_); focus omega) | (refine contA_of hK ?_; clear hK K'; simp only [go_sem, *]) | (simp only [thenA, inBlockA, go_sem, *]))
  all_goals first | contradiction | omega | skip
  refine ⟨[.own 5 3 0 1], [], [5], ⟨by simp only [resOne, go_sem], trivial⟩, ?_⟩
  simp only [go_sem, *]
theorem to_k7 (p : Plan) (c : Change) (x : Plate) (v : Valid p) (hs : 0 ≤ c.street ∧ c.street < p.length) (hx : x ∈ rowAt p c.street) (k : c.kind = 7) : Spec Tryz.prog 141 [encPlan p, c.enc, x.enc] [] (encHouses (toP p c x)) [] := by
 generalize hRR : toP p c x = R
 unfold toP at hRR
 rw [if_neg (by omega : ¬ c.kind = 1)] at hRR
 rw [if_neg (by omega : ¬ c.kind = 2)] at hRR
 rw [if_neg (by omega : ¬ c.kind = 3)] at hRR
 rw [if_neg (by omega : ¬ c.kind = 4)] at hRR
 rw [if_neg (by omega : ¬ c.kind = 5)] at hRR
 rw [if_neg (by omega : ¬ c.kind = 6)] at hRR
 rw [if_pos k] at hRR
 have k7 : (c.kind == 7) = true := by rw [beq_iff_eq]; exact k
 have k1 : (c.kind == 1) = false := by rw [beq_eq_false_iff_ne]; omega
 have k2 : (c.kind == 2) = false := by rw [beq_eq_false_iff_ne]; omega
 have k3 : (c.kind == 3) = false := by rw [beq_eq_false_iff_ne]; omega
 have k4 : (c.kind == 4) = false := by rw [beq_eq_false_iff_ne]; omega
 have k5 : (c.kind == 5) = false := by rw [beq_eq_false_iff_ne]; omega
 have k6 : (c.kind == 6) = false := by rw [beq_eq_false_iff_ne]; omega
 clear k
 have hl := (v.row c.street).len
 have hxk := (ok_iff _).1 ((v.row c.street).ok _ hx)
 have hs' : c.street.toNat < p.length := by omega
 obtain ⟨hs0, hs1⟩ := hs
 have ho := tpar_own (v.row c.street) hx
 have sp := sp_parity (rowAt p c.street) (decide (x.number.tmod 2 = 1)) (by omega)
 rw [ho] at sp
 have hxo := mem_own hx
 have hol : ((rowAt p c.street).filter (fun y => oddB y == oddB x)).length ≤ 8 := Nat.le_trans (List.length_filter_le _ _) hl
 have e1 : x.number.tmod 2 = x.number % 2 := Int.tmod_eq_emod_of_nonneg (by omega)
 clear ho
 generalize (rowAt p c.street).filter (fun y => oddB y == oddB x) = o at *
 have si := sp_index o x (by omega)
 rw [idxP_of hxo] at si
 have hk := idx_lt hxo
 generalize o.idxOf x = kk at *
 have sb1 := sp_Before x c.src
 have sb2 := sp_Before c.dst x
 have si1 := sp_index (rowAt p c.street) x (by omega)
 have si2 := sp_index (rowAt p c.street) c.src (by omega)
 have hi1 : -1 ≤ idxP (rowAt p c.street) x ∧ idxP (rowAt p c.street) x ≤ 8 := by
  rw [idxP_of hx]; have := idx_lt hx; omega
 have hi2 : -1 ≤ idxP (rowAt p c.street) c.src ∧ idxP (rowAt p c.street) c.src ≤ 8 := by
  unfold idxP; split
  ·rename_i h; have := idx_lt h; omega
  ·omega
 generalize idxP (rowAt p c.street) x = ix at *
 generalize idxP (rowAt p c.street) c.src = iy at *
 have w1 : IntKind.i64.wrap (ix - iy) = ix - iy := wrap_i64 (by omega) (by omega)
 have w2 : IntKind.i64.wrap (ix - iy + 1) = ix - iy + 1 := wrap_i64 (by omega) (by omega)
 rw [e1] at sp
 generalize x.lt c.src = t1 at *
 generalize c.dst.lt x = t2 at *
 cases t1 <;> cases t2
 ·rw [if_pos ⟨rfl, rfl⟩] at hRR
  subst hRR
  refine spec_body Tryz.func141 rfl (fun E hE => ?_); simp only [go_sem, Tryz.ntmps141]
  repeat' (first | (with_reducible (show runOps ..); first | (refine Qr rfl ?_; try intro K' hK; try simp only [go_sem, *]) | (refine Qi rfl rfl rfl rfl (fun hb K' hK => ?_) (fun hb => ?_) <;> (have hc := hb; try simp only [go_sem] at hc; simp only [go_sem, *]))) | (with_reducible (show Hold ..); first | refine Qh rfl ?_ | refine s_draw rfl Tryz.mixed (by kernel_rfl) ?_ | (refine s_cond rfl ⟨_, rfl, fun hb => ?_, fun hb => ?_⟩ <;> (have hc := hb; try simp only [go_sem] at hc)) | refine s_ret rfl ?_) | (with_reducible (show callA ..); first | (refine call_n (sp) ?_ ?_ ?_ ?_; (focus (simp only [go_sem, *]; done)); (focus (first | (simp; done) | (simp [go_sem]; done))); (focus (first | (simp; done) | (simp [go_sem]; done))); simp only [go_sem, *])) | ((with_reducible refine Qb ?_ ?_); focus kernel_rfl) | ((with_reducible refine And.intro ?_ ?_); focus omega) | (refine contA_of hK ?_; clear hK K'; simp only [go_sem, *]) | (simp only [thenA, inBlockA, go_sem, *]))
  all_goals first | contradiction | omega | skip
  (refine call_x [3] (si) (by simp only [go_sem, *]) (by first | exact .raw _) ?_; simp only [go_sem, *])
  repeat' (first | (with_reducible (show runOps ..); first | (refine Qr rfl ?_; try intro K' hK; try simp only [go_sem, *]) | (refine Qi rfl rfl rfl rfl (fun hb K' hK => ?_) (fun hb => ?_) <;> (have hc := hb; try simp only [go_sem] at hc; simp only [go_sem, *]))) | (with_reducible (show Hold ..); first | refine Qh rfl ?_ | refine s_draw rfl Tryz.mixed (by kernel_rfl) ?_ | (refine s_cond rfl ⟨_, rfl, fun hb => ?_, fun hb => ?_⟩ <;> (have hc := hb; try simp only [go_sem] at hc)) | refine s_ret rfl ?_) | (with_reducible (show callA ..); first | (refine call_s (sb1) ?_ ?_; (focus (simp only [go_sem, *]; done)); simp only [go_sem, *]) | (refine call_s (sb2) ?_ ?_; (focus (simp only [go_sem, *]; done)); simp only [go_sem, *]) | (refine call_s (si1) ?_ ?_; (focus (simp only [go_sem, *]; done)); simp only [go_sem, *]) | (refine call_s (si2) ?_ ?_; (focus (simp only [go_sem, *]; done)); simp only [go_sem, *])) | ((with_reducible refine Qb ?_ ?_); focus kernel_rfl) | ((with_reducible refine And.intro ?_ ?_); focus omega) | (refine contA_of hK ?_; clear hK K'; simp only [go_sem, *]) | (simp only [thenA, inBlockA, go_sem, *]))
  all_goals first | contradiction | omega | skip
  refine ⟨[.own 5 3 0 1], [], [5], ⟨by simp only [resOne, go_sem], trivial⟩, ?_⟩
  simp only [go_sem, *]
 ·rw [if_neg (fun h => by cases h.2)] at hRR
  subst hRR
  refine spec_body Tryz.func141 rfl (fun E hE => ?_); simp only [go_sem, Tryz.ntmps141]
  repeat' (first | (with_reducible (show runOps ..); first | (refine Qr rfl ?_; try intro K' hK; try simp only [go_sem, *]) | (refine Qi rfl rfl rfl rfl (fun hb K' hK => ?_) (fun hb => ?_) <;> (have hc := hb; try simp only [go_sem] at hc; simp only [go_sem, *]))) | (with_reducible (show Hold ..); first | refine Qh rfl ?_ | refine s_draw rfl Tryz.mixed (by kernel_rfl) ?_ | (refine s_cond rfl ⟨_, rfl, fun hb => ?_, fun hb => ?_⟩ <;> (have hc := hb; try simp only [go_sem] at hc)) | refine s_ret rfl ?_) | (with_reducible (show callA ..); first | (refine call_n (sp) ?_ ?_ ?_ ?_; (focus (simp only [go_sem, *]; done)); (focus (first | (simp; done) | (simp [go_sem]; done))); (focus (first | (simp; done) | (simp [go_sem]; done))); simp only [go_sem, *])) | ((with_reducible refine Qb ?_ ?_); focus kernel_rfl) | ((with_reducible refine And.intro ?_ ?_); focus omega) | (refine contA_of hK ?_; clear hK K'; simp only [go_sem, *]) | (simp only [thenA, inBlockA, go_sem, *]))
  all_goals first | contradiction | omega | skip
  (refine call_x [3] (si) (by simp only [go_sem, *]) (by first | exact .raw _) ?_; simp only [go_sem, *])
  repeat' (first | (with_reducible (show runOps ..); first | (refine Qr rfl ?_; try intro K' hK; try simp only [go_sem, *]) | (refine Qi rfl rfl rfl rfl (fun hb K' hK => ?_) (fun hb => ?_) <;> (have hc := hb; try simp only [go_sem] at hc; simp only [go_sem, *]))) | (with_reducible (show Hold ..); first | refine Qh rfl ?_ | refine s_draw rfl Tryz.mixed (by kernel_rfl) ?_ | (refine s_cond rfl ⟨_, rfl, fun hb => ?_, fun hb => ?_⟩ <;> (have hc := hb; try simp only [go_sem] at hc)) | refine s_ret rfl ?_) | (with_reducible (show callA ..); first | (refine call_s (sb1) ?_ ?_; (focus (simp only [go_sem, *]; done)); simp only [go_sem, *]) | (refine call_s (sb2) ?_ ?_; (focus (simp only [go_sem, *]; done)); simp only [go_sem, *]) | (refine call_s (si1) ?_ ?_; (focus (simp only [go_sem, *]; done)); simp only [go_sem, *]) | (refine call_s (si2) ?_ ?_; (focus (simp only [go_sem, *]; done)); simp only [go_sem, *])) | ((with_reducible refine Qb ?_ ?_); focus kernel_rfl) | ((with_reducible refine And.intro ?_ ?_); focus omega) | (refine contA_of hK ?_; clear hK K'; simp only [go_sem, *]) | (simp only [thenA, inBlockA, go_sem, *]))
  all_goals first | contradiction | omega | skip
  refine ⟨[.own 5 3 0 1], [], [5], ⟨by simp only [resOne, go_sem], trivial⟩, ?_⟩
  simp only [go_sem, *]
 ·rw [if_neg (fun h => by cases h.1)] at hRR
  subst hRR
  refine spec_body Tryz.func141 rfl (fun E hE => ?_); simp only [go_sem, Tryz.ntmps141]
  repeat' (first | (with_reducible (show runOps ..); first | (refine Qr rfl ?_; try intro K' hK; try simp only [go_sem, *]) | (refine Qi rfl rfl rfl rfl (fun hb K' hK => ?_) (fun hb => ?_) <;> (have hc := hb; try simp only [go_sem] at hc; simp only [go_sem, *]))) | (with_reducible (show Hold ..); first | refine Qh rfl ?_ | refine s_draw rfl Tryz.mixed (by kernel_rfl) ?_ | (refine s_cond rfl ⟨_, rfl, fun hb => ?_, fun hb => ?_⟩ <;> (have hc := hb; try simp only [go_sem] at hc)) | refine s_ret rfl ?_) | (with_reducible (show callA ..); first | (refine call_n (sp) ?_ ?_ ?_ ?_; (focus (simp only [go_sem, *]; done)); (focus (first | (simp; done) | (simp [go_sem]; done))); (focus (first | (simp; done) | (simp [go_sem]; done))); simp only [go_sem, *])) | ((with_reducible refine Qb ?_ ?_); focus kernel_rfl) | ((with_reducible refine And.intro ?_ ?_); focus omega) | (refine contA_of hK ?_; clear hK K'; simp only [go_sem, *]) | (simp only [thenA, inBlockA, go_sem, *]))
  all_goals first | contradiction | omega | skip
  (refine call_x [3] (si) (by simp only [go_sem, *]) (by first | exact .raw _) ?_; simp only [go_sem, *])
  repeat' (first | (with_reducible (show runOps ..); first | (refine Qr rfl ?_; try intro K' hK; try simp only [go_sem, *]) | (refine Qi rfl rfl rfl rfl (fun hb K' hK => ?_) (fun hb => ?_) <;> (have hc := hb; try simp only [go_sem] at hc; simp only [go_sem, *]))) | (with_reducible (show Hold ..); first | refine Qh rfl ?_ | refine s_draw rfl Tryz.mixed (by kernel_rfl) ?_ | (refine s_cond rfl ⟨_, rfl, fun hb => ?_, fun hb => ?_⟩ <;> (have hc := hb; try simp only [go_sem] at hc)) | refine s_ret rfl ?_) | (with_reducible (show callA ..); first | (refine call_s (sb1) ?_ ?_; (focus (simp only [go_sem, *]; done)); simp only [go_sem, *]) | (refine call_s (sb2) ?_ ?_; (focus (simp only [go_sem, *]; done)); simp only [go_sem, *]) | (refine call_s (si1) ?_ ?_; (focus (simp only [go_sem, *]; done)); simp only [go_sem, *]) | (refine call_s (si2) ?_ ?_; (focus (simp only [go_sem, *]; done)); simp only [go_sem, *])) | ((with_reducible refine Qb ?_ ?_); focus kernel_rfl) | ((with_reducible refine And.intro ?_ ?_); focus omega) | (refine contA_of hK ?_; clear hK K'; simp only [go_sem, *]) | (simp only [thenA, inBlockA, go_sem, *]))
  all_goals first | contradiction | omega | skip
  refine ⟨[.own 5 3 0 1], [], [5], ⟨by simp only [resOne, go_sem], trivial⟩, ?_⟩
  simp only [go_sem, *]
 ·rw [if_neg (fun h => by cases h.1)] at hRR
  subst hRR
  refine spec_body Tryz.func141 rfl (fun E hE => ?_); simp only [go_sem, Tryz.ntmps141]
  repeat' (first | (with_reducible (show runOps ..); first | (refine Qr rfl ?_; try intro K' hK; try simp only [go_sem, *]) | (refine Qi rfl rfl rfl rfl (fun hb K' hK => ?_) (fun hb => ?_) <;> (have hc := hb; try simp only [go_sem] at hc; simp only [go_sem, *]))) | (with_reducible (show Hold ..); first | refine Qh rfl ?_ | refine s_draw rfl Tryz.mixed (by kernel_rfl) ?_ | (refine s_cond rfl ⟨_, rfl, fun hb => ?_, fun hb => ?_⟩ <;> (have hc := hb; try simp only [go_sem] at hc)) | refine s_ret rfl ?_) | (with_reducible (show callA ..); first | (refine call_n (sp) ?_ ?_ ?_ ?_; (focus (simp only [go_sem, *]; done)); (focus (first | (simp; done) | (simp [go_sem]; done))); (focus (first | (simp; done) | (simp [go_sem]; done))); simp only [go_sem, *])) | ((with_reducible refine Qb ?_ ?_); focus kernel_rfl) | ((with_reducible refine And.intro ?_ ?_); focus omega) | (refine contA_of hK ?_; clear hK K'; simp only [go_sem, *]) | (simp only [thenA, inBlockA, go_sem, *]))
  all_goals first | contradiction | omega | skip
  (refine call_x [3] (si) (by simp only [go_sem, *]) (by first | exact .raw _) ?_; simp only [go_sem, *])
  repeat' (first | (with_reducible (show runOps ..); first | (refine Qr rfl ?_; try intro K' hK; try simp only [go_sem, *]) | (refine Qi rfl rfl rfl rfl (fun hb K' hK => ?_) (fun hb => ?_) <;> (have hc := hb; try simp only [go_sem] at hc; simp only [go_sem, *]))) | (with_reducible (show Hold ..); first | refine Qh rfl ?_ | refine s_draw rfl Tryz.mixed (by kernel_rfl) ?_ | (refine s_cond rfl ⟨_, rfl, fun hb => ?_, fun hb => ?_⟩ <;> (have hc := hb; try simp only [go_sem] at hc)) | refine s_ret rfl ?_) | (with_reducible (show callA ..); first | (refine call_s (sb1) ?_ ?_; (focus (simp only [go_sem, *]; done)); simp only [go_sem, *]) | (refine call_s (sb2) ?_ ?_; (focus (simp only [go_sem, *]; done)); simp only [go_sem, *]) | (refine call_s (si1) ?_ ?_; (focus (simp only [go_sem, *]; done)); simp only [go_sem, *]) | (refine call_s (si2) ?_ ?_; (focus (simp only [go_sem, *]; done)); simp only [go_sem, *])) | ((with_reducible refine Qb ?_ ?_); focus kernel_rfl) | ((with_reducible refine And.intro ?_ ?_); focus omega) | (refine contA_of hK ?_; clear hK K'; simp only [go_sem, *]) | (simp only [thenA, inBlockA, go_sem, *]))
  all_goals first | contradiction | omega | skip
  refine ⟨[.own 5 3 0 1], [], [5], ⟨by simp only [resOne, go_sem], trivial⟩, ?_⟩
  simp only [go_sem, *]
theorem sp_to (p : Plan) (c : Change) (x : Plate) (v : Valid p) (f : Fit p c) (hx : x ∈ rowAt p c.street) : Spec Tryz.prog 141 [encPlan p, c.enc, x.enc] [] (encHouses (toP p c x)) [] := by
 rcases kinds f.kind with k | k | k | k | k | k | k
 ·exact to_k1 p c x v f.street hx k
 ·exact to_k2 p c x v f.street hx k
 ·exact to_k3 p c x v f.street hx k
 ·exact to_k4 p c x v f.street ⟨(f.other (.inl k)).1, (f.other (.inl k)).2.1⟩ hx k
 ·exact to_k5 p c x v f.street hx k
 ·exact to_k6 p c x v f.street hx k
 ·exact to_k7 p c x v f.street hx k
end Go.Abs

namespace Go.Abs
open Go Go.Proofs
set_option maxRecDepth 10000
set_option maxHeartbeats 4000000
def mvs (p : Plan) (c : Change) (h : House) : List Move := (mv p c h).map fun z => ⟨h, z⟩
theorem flatMap_step {α β : Type} [Inhabited α] {l : List α} {g : α → List β} {i : Nat} (h : i < l.length) : (l.drop i).flatMap g = g (l.getD i default) ++ (l.drop (i + 1)).flatMap g := by
 rw [drop_cons h, List.flatMap_cons]
theorem sp_rMoves (p : Plan) (c : Change) (v : Valid p) (f : Fit p c) : Spec Tryz.prog 105 [encPlan p, c.enc] [] (.own 0 6 0 (movesOf p c).length) [.row 6 ((movesOf p c).map Move.enc)] := by
  have hR : ([] : List Move) ++ ((housesOf p).drop 0).flatMap (mvs p c) = movesOf p c := rfl
  have hRl := moves_len p c
  have hc := v.count
  have sh := sp_rHouses p (by have := v.len; omega) (fun l hl => by have := (v.rows l hl).len; omega) (by omega)
  have hin : ∀ z, z ∈ housesOf p → z.street = c.street → z.plate ∈ rowAt p c.street := fun z hz e => by rw [← e]; exact (mem_houses.1 hz).2.2
  generalize movesOf p c = R at *
  generalize housesOf p = hs at *
  refine spec_body Tryz.func105 rfl (fun E hE => ?_); simp only [go_sem, Tryz.ntmps105]
  repeat' (first | (with_reducible (show runOps ..); first | (refine Qr rfl ?_; try intro K' hK; try simp only [go_sem, *])) | (with_reducible (show Hold ..); first | refine Qh rfl ?_ | refine s_draw rfl Tryz.mixed (by kernel_rfl) ?_ | (refine s_cond rfl ⟨_, rfl, fun hb => ?_, fun hb => ?_⟩ <;> (have hc := hb; try simp only [go_sem] at hc)) | refine s_ret rfl ?_) | (with_reducible (show callA ..); first | (refine call_n (sh) ?_ ?_ ?_ ?_; (focus (simp only [go_sem, *]; done)); (focus (first | (simp; done) | (simp [go_sem]; done))); (focus (first | (simp; done) | (simp [go_sem]; done))); simp only [go_sem, *])) | ((with_reducible refine Qb ?_ ?_); focus kernel_rfl) | ((with_reducible refine And.intro ?_ ?_); focus omega) | (refine contA_of hK ?_; clear hK K'; simp only [go_sem, *]) | (simp only [thenA, inBlockA, go_sem, *]))
  refine s_loop rfl (fun zn zN zenv zAs => ∃ (i : Nat) (acc : List Move), zn = (hs.length) - i ∧ i ≤ (hs.length) ∧ (acc ++ (hs.drop i).flatMap (mvs p c) = R) ∧ zN = 58 ∧ zenv = [(7, iV i), (6, .own 2 3 0 hs.length), (5, .own 3 6 0 acc.length), (2, .ptr 0 0), (3, .ptr 1 0)] ∧ zAs = [.box [.list (p.map encStreet)], .box [iV c.kind, iV c.street, iV c.other, iV c.src.number, iV c.src.letter, iV c.dst.number, iV c.dst.letter], .row 3 (hs.map House.enc), .row 6 (acc.map Move.enc)]) (hs.length) ⟨[some 0, some 1, some 2, none], [], _, _, _, (by (simp only [Weak, go_sem, List.map_append, List.map_set, *] <;> (try simp (disch := omega) only [wrap_succ]) <;> (try simp) <;> (try omega))), 0, [], (by simp), (by simp), (by exact hR), rfl, rfl, rfl⟩ ?_; rintro _ _ _ _ ⟨i, acc, rfl, hi, hP, rfl, rfl, rfl⟩
  clear hR
  have hlen1 := congrArg List.length hP
  simp only [List.length_append] at hlen1
  by_cases hi : i < hs.length
  · rw [flatMap_step hi] at hP
    have hm := hin _ (getD_mem hi)
    have ml := mv_len_all p c (hs.getD i default)
    by_cases q : (hs.getD i default).street = c.street
    · have hS : acc ++ (((mv p c (hs.getD i default)).drop 0).map (fun z => (⟨hs.getD i default, z⟩ : Move)) ++ (hs.drop (i + 1)).flatMap (mvs p c)) = R := hP
      have st := sp_to p c (hs.getD i default).plate v f (hm q)
      have q' : ((hs.getD i default).street == c.street) = true := by rw [beq_iff_eq]; exact q
      unfold mv at hS ml
      rw [if_pos q] at hS ml
      clear q hP hm hin
      generalize hll : toP p c (hs.getD i default).plate = l at *
      repeat' (first | (with_reducible (show runOps ..); first | (refine Qr rfl ?_; try intro K' hK; try simp only [go_sem, *])) | (with_reducible (show Hold ..); first | refine Qh rfl ?_ | refine s_draw rfl Tryz.mixed (by kernel_rfl) ?_ | (refine s_cond rfl ⟨_, rfl, fun hb => ?_, fun hb => ?_⟩ <;> (have hc := hb; try simp only [go_sem] at hc)) | refine s_ret rfl ?_) | (with_reducible (show callA ..); first | (refine call_s (st) ?_ ?_; (focus (simp only [go_sem, *]; done)); simp only [go_sem, *])) | ((with_reducible refine Qb ?_ ?_); focus kernel_rfl) | ((with_reducible refine And.intro ?_ ?_); focus omega) | (refine contA_of hK ?_; clear hK K'; simp only [go_sem, *]) | (simp only [thenA, inBlockA, go_sem, *]))
      all_goals first | contradiction | omega | skip
      generalize hh : hs.getD i default = h at *
      refine s_loop rfl (fun zn zN zenv zAs => ∃ (j : Nat) (acc2 : List Move), zn = (l.length) - j ∧ j ≤ (l.length) ∧ (acc2 ++ ((l.drop j).map (fun z => (⟨h, z⟩ : Move)) ++ (hs.drop (i + 1)).flatMap (mvs p c)) = R) ∧ zN = 58 ∧ zenv = [(9, iV j), (8, encHouses l), (7, iV i), (6, .own 2 3 0 hs.length), (5, .own 3 6 0 acc2.length), (2, .ptr 0 0), (3, .ptr 1 0)] ∧ zAs = [.box [.list (p.map encStreet)], .box [iV c.kind, iV c.street, iV c.other, iV c.src.number, iV c.src.letter, iV c.dst.number, iV c.dst.letter], .row 3 (hs.map House.enc), .row 6 (acc2.map Move.enc)]) (l.length) ⟨[some 0, some 1, some 2, some 3], [], _, _, _, (by (simp only [Weak, go_sem, List.map_append, List.map_set, *] <;> (try simp (disch := omega) only [wrap_succ]) <;> (try simp) <;> (try omega))), 0, acc, (by simp), (by simp), (by exact hS), rfl, rfl, rfl⟩ ?_; rintro _ _ _ _ ⟨j, acc2, rfl, hj, hQ, rfl, rfl, rfl⟩
      have hlen2 := congrArg List.length hQ
      simp only [List.length_append, List.length_map, List.length_drop] at hlen2
      clear hlen1 hS
      by_cases hj : j < l.length
      · repeat' (first | (with_reducible (show runOps ..); first | (refine Qr rfl ?_; try intro K' hK; try simp only [go_sem, *])) | (with_reducible (show Hold ..); first | refine Qh rfl ?_ | refine s_draw rfl Tryz.mixed (by kernel_rfl) ?_ | (refine s_cond rfl ⟨_, rfl, fun hb => ?_, fun hb => ?_⟩ <;> (have hc := hb; try simp only [go_sem] at hc)) | refine s_ret rfl ?_) | ((with_reducible refine Qb ?_ ?_); focus kernel_rfl) | ((with_reducible refine And.intro ?_ ?_); focus omega) | (refine contA_of hK ?_; clear hK K'; simp only [go_sem, *]) | (simp only [thenA, inBlockA, go_sem, *]))
        all_goals first | contradiction | omega | skip
        refine ⟨_, (by omega), [some 0, some 1, some 2, some 5], [], _, _, _, (by (simp only [Weak, go_sem, List.map_append, List.map_set, *] <;> (try simp (disch := omega) only [wrap_succ]) <;> (try simp) <;> (try omega))), j + 1, acc2 ++ [⟨h, l.getD j default⟩], rfl, (by omega), (by rw [← hQ, drop_cons (i := j) (by assumption), List.map_cons]; simp), rfl, rfl, rfl⟩
      · rw [drop_end (by omega)] at hQ
        repeat' (first | (with_reducible (show runOps ..); first | (refine Qr rfl ?_; try intro K' hK; try simp only [go_sem, *])) | (with_reducible (show Hold ..); first | refine Qh rfl ?_ | refine s_draw rfl Tryz.mixed (by kernel_rfl) ?_ | (refine s_cond rfl ⟨_, rfl, fun hb => ?_, fun hb => ?_⟩ <;> (have hc := hb; try simp only [go_sem] at hc)) | refine s_ret rfl ?_) | ((with_reducible refine Qb ?_ ?_); focus kernel_rfl) | ((with_reducible refine And.intro ?_ ?_); focus omega) | (refine contA_of hK ?_; clear hK K'; simp only [go_sem, *]) | (simp only [thenA, inBlockA, go_sem, *]))
        all_goals first | contradiction | omega | skip
        refine ⟨_, (by omega), [some 0, some 1, some 2, some 3], [], _, _, _, (by (simp only [Weak, go_sem, List.map_append, List.map_set, *] <;> (try simp (disch := omega) only [wrap_succ]) <;> (try simp) <;> (try omega))), i + 1, acc2, rfl, (by omega), (by simpa using hQ), rfl, rfl, rfl⟩
    · have hS : acc ++ (([hs.getD i default].drop 0).map (fun z => (⟨hs.getD i default, z⟩ : Move)) ++ (hs.drop (i + 1)).flatMap (mvs p c)) = R := by
        rw [← hP]; unfold mvs mv; rw [if_neg q]; rfl
      have q' : ((hs.getD i default).street == c.street) = false := by rw [beq_eq_false_iff_ne]; exact q
      clear q hP hm hin ml
      repeat' (first | (with_reducible (show runOps ..); first | (refine Qr rfl ?_; try intro K' hK; try simp only [go_sem, *])) | (with_reducible (show Hold ..); first | refine Qh rfl ?_ | refine s_draw rfl Tryz.mixed (by kernel_rfl) ?_ | (refine s_cond rfl ⟨_, rfl, fun hb => ?_, fun hb => ?_⟩ <;> (have hc := hb; try simp only [go_sem] at hc)) | refine s_ret rfl ?_) | ((with_reducible refine Qb ?_ ?_); focus kernel_rfl) | ((with_reducible refine And.intro ?_ ?_); focus omega) | (refine contA_of hK ?_; clear hK K'; simp only [go_sem, *]) | (simp only [thenA, inBlockA, go_sem, *]))
      all_goals first | contradiction | omega | skip
      generalize hh : hs.getD i default = h at *
      refine s_loop rfl (fun zn zN zenv zAs => ∃ (j : Nat) (acc2 : List Move), zn = ([h].length) - j ∧ j ≤ ([h].length) ∧ (acc2 ++ (([h].drop j).map (fun z => (⟨h, z⟩ : Move)) ++ (hs.drop (i + 1)).flatMap (mvs p c)) = R) ∧ zN = 58 ∧ zenv = [(9, iV j), (8, encHouses [h]), (7, iV i), (6, .own 2 3 0 hs.length), (5, .own 3 6 0 acc2.length), (2, .ptr 0 0), (3, .ptr 1 0)] ∧ zAs = [.box [.list (p.map encStreet)], .box [iV c.kind, iV c.street, iV c.other, iV c.src.number, iV c.src.letter, iV c.dst.number, iV c.dst.letter], .row 3 (hs.map House.enc), .row 6 (acc2.map Move.enc)]) ([h].length) ⟨[some 0, some 1, some 2, some 3], [4], _, _, _, (by (simp only [Weak, go_sem, List.map_append, List.map_set, *] <;> (try simp (disch := omega) only [wrap_succ]) <;> (try simp) <;> (try omega))), 0, acc, (by simp), (by simp), (by exact hS), rfl, rfl, rfl⟩ ?_; rintro _ _ _ _ ⟨j, acc2, rfl, hj, hQ, rfl, rfl, rfl⟩
      generalize hll : [h] = l at *
      have ml : l.length ≤ 2 := by rw [← hll]; simp
      have hlen2 := congrArg List.length hQ
      simp only [List.length_append, List.length_map, List.length_drop] at hlen2
      clear hlen1 hS
      by_cases hj : j < l.length
      · repeat' (first | (with_reducible (show runOps ..); first | (refine Qr rfl ?_; try intro K' hK; try simp only [go_sem, *])) | (with_reducible (show Hold ..); first | refine Qh rfl ?_ | refine s_draw rfl Tryz.mixed (by kernel_rfl) ?_ | (refine s_cond rfl ⟨_, rfl, fun hb => ?_, fun hb => ?_⟩ <;> (have hc := hb; try simp only [go_sem] at hc)) | refine s_ret rfl ?_) | ((with_reducible refine Qb ?_ ?_); focus kernel_rfl) | ((with_reducible refine And.intro ?_ ?_); focus omega) | (refine contA_of hK ?_; clear hK K'; simp only [go_sem, *]) | (simp only [thenA, inBlockA, go_sem, *]))
        all_goals first | contradiction | omega | skip
        refine ⟨_, (by omega), [some 0, some 1, some 2, some 5], [], _, _, _, (by (simp only [Weak, go_sem, List.map_append, List.map_set, *] <;> (try simp (disch := omega) only [wrap_succ]) <;> (try simp) <;> (try omega))), j + 1, acc2 ++ [⟨h, l.getD j default⟩], rfl, (by omega), (by rw [← hQ, drop_cons (i := j) (by assumption), List.map_cons]; simp), rfl, rfl, rfl⟩
      · rw [drop_end (by omega)] at hQ
        repeat' (first | (with_reducible (show runOps ..); first | (refine Qr rfl ?_; try intro K' hK; try simp only [go_sem, *])) | (with_reducible (show Hold ..); first | refine Qh rfl ?_ | refine s_draw rfl Tryz.mixed (by kernel_rfl) ?_ | (refine s_cond rfl ⟨_, rfl, fun hb => ?_, fun hb => ?_⟩ <;> (have hc := hb; try simp only [go_sem] at hc)) | refine s_ret rfl ?_) | ((with_reducible refine Qb ?_ ?_); focus kernel_rfl) | ((with_reducible refine And.intro ?_ ?_); focus omega) | (refine contA_of hK ?_; clear hK K'; simp only [go_sem, *]) | (simp only [thenA, inBlockA, go_sem, *]))
        all_goals first | contradiction | omega | skip
        refine ⟨_, (by omega), [some 0, some 1, some 2, some 3], [], _, _, _, (by (simp only [Weak, go_sem, List.map_append, List.map_set, *] <;> (try simp (disch := omega) only [wrap_succ]) <;> (try simp) <;> (try omega))), i + 1, acc2, rfl, (by omega), (by simpa using hQ), rfl, rfl, rfl⟩
  · rw [drop_end (by omega), List.flatMap_nil, List.append_nil] at hP
    repeat' (first | (with_reducible (show runOps ..); first | (refine Qr rfl ?_; try intro K' hK; try simp only [go_sem, *])) | (with_reducible (show Hold ..); first | refine Qh rfl ?_ | refine s_draw rfl Tryz.mixed (by kernel_rfl) ?_ | (refine s_cond rfl ⟨_, rfl, fun hb => ?_, fun hb => ?_⟩ <;> (have hc := hb; try simp only [go_sem] at hc)) | refine s_ret rfl ?_) | ((with_reducible refine Qb ?_ ?_); focus kernel_rfl) | ((with_reducible refine And.intro ?_ ?_); focus omega) | (refine contA_of hK ?_; clear hK K'; simp only [go_sem, *]) | (simp only [thenA, inBlockA, go_sem, *]))
    all_goals first | contradiction | omega | skip
    refine ⟨[_], [some 3], [], ⟨rfl, trivial⟩, ?_⟩
    simp only [go_sem, hP, *]
end Go.Abs

namespace Go.Abs
open Go Go.Proofs
set_option maxRecDepth 10000
set_option maxHeartbeats 4000000
theorem sp_rLaid {n : Nat} (l : List House) (hn : 0 < n ∧ n ≤ 3) (hst : ∀ z, z ∈ l → 0 ≤ z.street ∧ z.street < n) (hl : l.length ≤ 4294967296) : Spec Tryz.prog 127 [.list (l.map House.enc), iV n] [] (encPlan (laid l n)) [] := by
 rcases (by omega : n = 1 ∨ n = 2 ∨ n = 3) with rfl | rfl | rfl
 ·exact sp_rLaid1 l hst hl
 ·exact sp_rLaid2 l hst hl
 ·exact sp_rLaid3 l hst hl
theorem sp_rMade (p : Plan) (c : Change) (v : Valid p) (f : Fit p c) : Spec Tryz.prog 91 [encPlan p, c.enc] [] (encPlan (afterOf p c)) [] := by
 have hst := fun z (hz : z ∈ flatMv p c) => flatMv_in v f hz
 have hml := moves_len p c
 have hd := moves_dst p c
 have hcn := v.count
 have hdl : (flatMv p c).length = (movesOf p c).length := by rw [← hd, List.length_map]
 have sl := sp_rLaid (n := p.length) (flatMv p c) ⟨v.ne, v.len⟩ (fun z hz => ⟨(hst z hz).1, (hst z hz).2.1⟩) (by omega)
 have sm := sp_rMoves p c v f
 have e : laid (flatMv p c) p.length = afterOf p c := rfl
 rw [e] at sl
 clear e
 generalize afterOf p c = Q at *
 have h0 : ((movesOf p c).take 0).map Move.dst = [] := by simp
 have hE0 : ((movesOf p c).take (movesOf p c).length).map Move.dst = flatMv p c := by rw [List.take_length, hd]
 have hvl := v.len
 have hMb : (movesOf p c).length ≤ 48 := by omega
 have hLb : (flatMv p c).length ≤ 48 := by omega
 generalize movesOf p c = M at *
 generalize flatMv p c = L at *
 clear hst hd hdl
 refine spec_body Tryz.func91 rfl (fun E hE => ?_); simp only [go_sem, Tryz.ntmps91]
 repeat' (first | (with_reducible (show runOps ..); first | (refine Qr rfl ?_; try intro K' hK; try simp only [go_sem, *])) | (with_reducible (show Hold ..); first | refine Qh rfl ?_ | (refine s_cond rfl ⟨_, rfl, fun hb => ?_, fun hb => ?_⟩ <;> (have hc := hb; try simp only [go_sem] at hc)) | refine s_ret rfl ?_) | (with_reducible (show callA ..); first | (refine call_n (sm) ?_ ?_ ?_ ?_; (focus (simp only [go_sem, *]; done)); (focus (first | (simp; done) | (simp [go_sem]; done))); (focus (first | (simp; done) | (simp [go_sem]; done))); simp only [go_sem, *])) | ((with_reducible refine Qb ?_ ?_); focus kernel_rfl) | ((with_reducible refine And.intro ?_ ?_); focus omega) | (refine contA_of hK ?_; clear hK K'; simp only [go_sem, *]) | (simp only [thenA, inBlockA, go_sem, *]))
 refine s_loop rfl (fun zn zN zenv zAs => ∃ (i : Nat) (acc : List House), zn = (M.length) - i ∧ i ≤ (M.length) ∧ (acc ++ (M.drop i).map Move.dst = L) ∧ zN = 30 ∧ zenv = [(7, iV i), (6, .own 3 6 0 M.length), (5, .own 4 3 0 acc.length), (2, .ptr 0 0), (3, .ptr 1 0), (4, .ptr 2 0)] ∧ zAs = [.box [.list (p.map encStreet)], .box [iV c.kind, iV c.street, iV c.other, iV c.src.number, iV c.src.letter, iV c.dst.number, iV c.dst.letter], .box [nilV], .row 6 (M.map Move.enc), .row 3 (acc.map House.enc)]) (M.length) ⟨[some 0, some 1, some 2, some 3, none], [], _, _, _, (by (simp only [Weak, go_sem, List.map_append, List.map_set, *] <;> (try simp (disch := omega) only [wrap_succ]) <;> (try simp) <;> (try omega))), 0, [], (by simp), (by simp), (by rw [← hE0, List.take_length]; rfl), rfl, rfl, rfl⟩ ?_; rintro _ _ _ _ ⟨i, acc, rfl, hi, hP, rfl, rfl, rfl⟩
 have hlen1 := congrArg List.length hP
 simp only [List.length_append, List.length_map, List.length_drop] at hlen1
 by_cases hi : i < M.length
 ·repeat' (first | (with_reducible (show runOps ..); first | (refine Qr rfl ?_; try intro K' hK; try simp only [go_sem, *])) | (with_reducible (show Hold ..); first | refine Qh rfl ?_ | (refine s_cond rfl ⟨_, rfl, fun hb => ?_, fun hb => ?_⟩ <;> (have hc := hb; try simp only [go_sem] at hc)) | refine s_ret rfl ?_) | ((with_reducible refine Qb ?_ ?_); focus kernel_rfl) | ((with_reducible refine And.intro ?_ ?_); focus omega) | (refine contA_of hK ?_; clear hK K'; simp only [go_sem, *]) | (simp only [thenA, inBlockA, go_sem, *]))
  all_goals first | contradiction | omega | skip
  refine ⟨_, (by omega), [some 0, some 1, some 2, some 3, some 6], [], _, _, _, (by (simp only [Weak, go_sem, List.map_append, List.map_set, *] <;> (try simp (disch := omega) only [wrap_succ]) <;> (try simp) <;> (try omega))), i + 1, acc ++ [(M.getD i default).dst], rfl, (by omega), (by rw [← hP, drop_cons (i := i) (by assumption), List.map_cons]; simp), rfl, rfl, rfl⟩
 ·rw [drop_end (by omega), List.map_nil, List.append_nil] at hP
  subst hP
  repeat' (first | (with_reducible (show runOps ..); first | (refine Qr rfl ?_; try intro K' hK; try simp only [go_sem, *])) | (with_reducible (show Hold ..); first | refine Qh rfl ?_ | (refine s_cond rfl ⟨_, rfl, fun hb => ?_, fun hb => ?_⟩ <;> (have hc := hb; try simp only [go_sem] at hc)) | refine s_ret rfl ?_) | ((with_reducible refine Qb ?_ ?_); focus kernel_rfl) | ((with_reducible refine And.intro ?_ ?_); focus omega) | (refine contA_of hK ?_; clear hK K'; simp only [go_sem, *]) | (simp only [thenA, inBlockA, go_sem, *]))
  all_goals first | contradiction | omega | skip
  (refine call_fz (sl) (by simp only [go_sem, *]; done) rfl (by simp only [go_sem]; done) (by simp) (by simp) ?_; simp only [go_sem, deads, *])
  repeat' (first | (with_reducible (show runOps ..); first | (refine Qr rfl ?_; try intro K' hK; try simp only [go_sem, *])) | (with_reducible (show Hold ..); first | refine Qh rfl ?_ | (refine s_cond rfl ⟨_, rfl, fun hb => ?_, fun hb => ?_⟩ <;> (have hc := hb; try simp only [go_sem] at hc)) | refine s_ret rfl ?_) | ((with_reducible refine Qb ?_ ?_); focus kernel_rfl) | ((with_reducible refine And.intro ?_ ?_); focus omega) | (refine contA_of hK ?_; clear hK K'; simp only [go_sem, *]) | (simp only [thenA, inBlockA, go_sem, *]))
  all_goals first | contradiction | omega | skip
  refine ⟨[encPlan Q], [], [], ⟨(by simp only [resOne, go_sem]), trivial⟩, ?_⟩; simp only [go_sem, *]
end Go.Abs

namespace Go.Abs
open Go Go.Proofs
set_option maxRecDepth 10000
set_option maxHeartbeats 4000000
theorem sp_rcheck (p : Plan) (c : Change) (hl : p.length ≤ 4294967296) : Spec Tryz.prog 90 [encPlan p, c.enc] [] (iV (errOf p c)) [] := by
 have s1 := sp_rCheck p hl
 unfold errOf
 by_cases q : check p = 0
 ·have s2 := sp_Can p c ((check_zero p).1 q)
  rw [if_pos q]
  rw [q] at s1
  clear q
  generalize can p c = R at *
  refine spec_body Tryz.func90 rfl (fun E hE => ?_); simp only [go_sem, Tryz.ntmps90]
  repeat' (first | (with_reducible (show runOps ..); first | (refine Qr rfl ?_; try intro K' hK; try simp only [go_sem, *])) | (with_reducible (show Hold ..); first | refine Qh rfl ?_ | (refine s_cond rfl ⟨_, rfl, fun hb => ?_, fun hb => ?_⟩ <;> (have hc := hb; try simp only [go_sem] at hc)) | refine s_ret rfl ?_) | (with_reducible (show callA ..); first | ((first | refine call_s (s1) ?_ ?_ | refine call_s (s2) ?_ ?_); (focus (simp only [go_sem, *]; done)); simp only [go_sem, *])) | ((with_reducible refine Qb ?_ ?_); focus kernel_rfl) | ((with_reducible refine And.intro ?_ ?_); focus omega) | (refine contA_of hK ?_; clear hK K'; simp only [go_sem, *]) | (simp only [thenA, inBlockA, go_sem, *]))
  all_goals first | contradiction | omega | skip
  (refine ⟨[_], [], [], ⟨rfl, trivial⟩, ?_⟩; simp only [go_sem, *])
 ·rw [if_neg q]
  have q' : (check p != 0) = true := by simpa using q
  clear q
  generalize check p = R at *
  refine spec_body Tryz.func90 rfl (fun E hE => ?_); simp only [go_sem, Tryz.ntmps90]
  repeat' (first | (with_reducible (show runOps ..); first | (refine Qr rfl ?_; try intro K' hK; try simp only [go_sem, *])) | (with_reducible (show Hold ..); first | refine Qh rfl ?_ | (refine s_cond rfl ⟨_, rfl, fun hb => ?_, fun hb => ?_⟩ <;> (have hc := hb; try simp only [go_sem] at hc)) | refine s_ret rfl ?_) | (with_reducible (show callA ..); first | (refine call_s (s1) ?_ ?_; (focus (simp only [go_sem, *]; done)); simp only [go_sem, *])) | ((with_reducible refine Qb ?_ ?_); focus kernel_rfl) | ((with_reducible refine And.intro ?_ ?_); focus omega) | (refine contA_of hK ?_; clear hK K'; simp only [go_sem, *]) | (simp only [thenA, inBlockA, go_sem, *]))
  all_goals first | contradiction | omega | skip
  (refine ⟨[_], [], [], ⟨rfl, trivial⟩, ?_⟩; simp only [go_sem, *])
theorem sp_rAfter_ok (p : Plan) (c : Change) (v : Valid p) (f : Fit p c) (h : errOf p c = 0) : Spec Tryz.prog 26 [encPlan p, c.enc] [] (.tup [encPlan (afterOf p c), iV 0]) [] := by
 have s1 := sp_rcheck p c (by have := v.len; omega)
 have s2 := sp_rMade p c v f
 rw [h] at s1
 clear h
 generalize afterOf p c = Q at *
 refine spec_body Tryz.func26 rfl (fun E hE => ?_); simp only [go_sem, Tryz.ntmps26]
 repeat' (first | (with_reducible (show runOps ..); first | (refine Qr rfl ?_; try intro K' hK; try simp only [go_sem, *])) | (with_reducible (show Hold ..); first | refine Qh rfl ?_ | (refine s_cond rfl ⟨_, rfl, fun hb => ?_, fun hb => ?_⟩ <;> (have hc := hb; try simp only [go_sem] at hc)) | refine s_ret rfl ?_) | (with_reducible (show callA ..); first | ((first | refine call_s (s1) ?_ ?_ | refine call_s (s2) ?_ ?_); (focus (simp only [go_sem, *]; done)); simp only [go_sem, *])) | ((with_reducible refine Qb ?_ ?_); focus kernel_rfl) | ((with_reducible refine And.intro ?_ ?_); focus omega) | (refine contA_of hK ?_; clear hK K'; simp only [go_sem, *]) | (simp only [thenA, inBlockA, go_sem, *]))
 all_goals first | contradiction | omega | skip
 refine ⟨[encPlan Q, iV 0], [], [], ⟨(by simp only [resOne, go_sem]), rfl, trivial⟩, ?_⟩; simp only [go_sem, *]
theorem sp_rAfter_err (p : Plan) (c : Change) (hl : p.length ≤ 4294967296) (h : errOf p c ≠ 0) : Spec Tryz.prog 26 [encPlan p, c.enc] [] (.tup [encPlan [], iV (errOf p c)]) [] := by
 have s1 := sp_rcheck p c hl
 have q' : (errOf p c != 0) = true := by simpa using h
 clear h
 generalize errOf p c = R at *
 refine spec_body Tryz.func26 rfl (fun E hE => ?_); simp only [go_sem, Tryz.ntmps26]
 repeat' (first | (with_reducible (show runOps ..); first | (refine Qr rfl ?_; try intro K' hK; try simp only [go_sem, *])) | (with_reducible (show Hold ..); first | refine Qh rfl ?_ | (refine s_cond rfl ⟨_, rfl, fun hb => ?_, fun hb => ?_⟩ <;> (have hc := hb; try simp only [go_sem] at hc)) | refine s_ret rfl ?_) | (with_reducible (show callA ..); first | (refine call_s (s1) ?_ ?_; (focus (simp only [go_sem, *]; done)); simp only [go_sem, *])) | ((with_reducible refine Qb ?_ ?_); focus kernel_rfl) | ((with_reducible refine And.intro ?_ ?_); focus omega) | (refine contA_of hK ?_; clear hK K'; simp only [go_sem, *]) | (simp only [thenA, inBlockA, go_sem, *]))
 all_goals first | contradiction | omega | skip
 refine ⟨[.agg [nilV], iV R], [], [], ⟨(by simp only [resOne, go_sem]), rfl, trivial⟩, ?_⟩; simp only [go_sem, *]
end Go.Abs

namespace Go.Abs
open Go Go.Proofs
set_option maxRecDepth 10000
set_option maxHeartbeats 4000000
theorem sp_HasPlace (l : List House) (x : House) (h1 : l.length ≤ 4294967296) : Spec Tryz.prog 43 [encHouses l, x.enc] [] (bV (decide (x ∈ l))) [] := by
 refine spec_body Tryz.func43 rfl (fun E hE => ?_); simp only [go_sem, Tryz.ntmps43]
 repeat' (first | (with_reducible (show runOps ..); first | (refine Qr rfl ?_; try intro K' hK; try simp only [go_sem, *])) | (with_reducible (show Hold ..); first | refine Qh rfl ?_ | refine s_draw rfl Tryz.mixed (by kernel_rfl) ?_ | (refine s_cond rfl ⟨_, rfl, fun hb => ?_, fun hb => ?_⟩ <;> (have hc := hb; try simp only [go_sem] at hc)) | refine s_ret rfl ?_) | ((with_reducible refine Qb ?_ ?_); focus kernel_rfl) | ((with_reducible refine And.intro ?_ ?_); focus omega) | (refine contA_of hK ?_; clear hK K'; simp only [go_sem, *]) | (simp only [thenA, inBlockA, go_sem, *]))
 refine s_loop rfl (fun zn zN zenv zAs => ∃ (i : Nat), zn = (l.length) - i ∧ i ≤ (l.length) ∧ (x ∉ l.take i) ∧ zN = 18 ∧ zenv = [(5, iV i), (3, .ptr 0 0), (0, encHouses l)] ∧ zAs = [.box [iV x.street, iV x.plate.number, iV x.plate.letter]]) (l.length) ⟨[some 0], [], _, _, _, (by (simp only [Weak, go_sem, List.map_append, List.map_set, *] <;> (try simp (disch := omega) only [wrap_succ]) <;> (try simp) <;> (try omega))), 0, (by simp), (by simp), (by simp), rfl, rfl, rfl⟩ ?_; rintro _ _ _ _ ⟨i, rfl, hi, hP, rfl, rfl, rfl⟩
 by_cases hi : i < l.length
 ·by_cases q : l.getD i default = x
  ·have q' : decide (l.getD i default = x) = true := decide_eq_true q
   have hm : decide (x ∈ l) = true := decide_eq_true (by rw [← q]; exact getD_mem hi)
   clear q
   repeat' (first | (with_reducible (show runOps ..); first | (refine Qr rfl ?_; try intro K' hK; try simp only [go_sem, *])) | (with_reducible (show Hold ..); first | refine Qh rfl ?_ | refine s_draw rfl Tryz.mixed (by kernel_rfl) ?_ | (refine s_cond rfl ⟨_, rfl, fun hb => ?_, fun hb => ?_⟩ <;> (have hc := hb; try simp only [go_sem] at hc)) | refine s_ret rfl ?_) | ((with_reducible refine Qb ?_ ?_); focus kernel_rfl) | ((with_reducible refine And.intro ?_ ?_); focus omega) | (refine contA_of hK ?_; clear hK K'; simp only [go_sem, *]) | (simp only [thenA, inBlockA, go_sem, *]))
   all_goals first | contradiction | omega | skip
   (refine ⟨[_], [], [], ⟨rfl, trivial⟩, ?_⟩; simp only [go_sem, *])
  ·have q' : decide (l.getD i default = x) = false := decide_eq_false q
   repeat' (first | (with_reducible (show runOps ..); first | (refine Qr rfl ?_; try intro K' hK; try simp only [go_sem, *])) | (with_reducible (show Hold ..); first | refine Qh rfl ?_ | refine s_draw rfl Tryz.mixed (by kernel_rfl) ?_ | (refine s_cond rfl ⟨_, rfl, fun hb => ?_, fun hb => ?_⟩ <;> (have hc := hb; try simp only [go_sem] at hc)) | refine s_ret rfl ?_) | ((with_reducible refine Qb ?_ ?_); focus kernel_rfl) | ((with_reducible refine And.intro ?_ ?_); focus omega) | (refine contA_of hK ?_; clear hK K'; simp only [go_sem, *]) | (simp only [thenA, inBlockA, go_sem, *]))
   all_goals first | contradiction | omega | skip
   refine ⟨_, (by omega), [some 0], [], _, _, _, (by (simp only [Weak, go_sem, List.map_append, List.map_set, *] <;> (try simp (disch := omega) only [wrap_succ]) <;> (try simp) <;> (try omega))), i + 1, rfl, (by omega), (by rw [take_succ_getD hi, List.mem_append, List.mem_singleton]; exact fun h => h.elim hP (fun e => q e.symm)), rfl, rfl, rfl⟩
 ·rw [List.take_of_length_le (by omega)] at hP
  have hm : decide (x ∈ l) = false := decide_eq_false hP
  repeat' (first | (with_reducible (show runOps ..); first | (refine Qr rfl ?_; try intro K' hK; try simp only [go_sem, *])) | (with_reducible (show Hold ..); first | refine Qh rfl ?_ | refine s_draw rfl Tryz.mixed (by kernel_rfl) ?_ | (refine s_cond rfl ⟨_, rfl, fun hb => ?_, fun hb => ?_⟩ <;> (have hc := hb; try simp only [go_sem] at hc)) | refine s_ret rfl ?_) | ((with_reducible refine Qb ?_ ?_); focus kernel_rfl) | ((with_reducible refine And.intro ?_ ?_); focus omega) | (refine contA_of hK ?_; clear hK K'; simp only [go_sem, *]) | (simp only [thenA, inBlockA, go_sem, *]))
  all_goals first | contradiction | omega | skip
  (refine ⟨[_], [], [], ⟨rfl, trivial⟩, ?_⟩; simp only [go_sem, *])
theorem sp_DupPlan (p : Plan) (h1 : p.length ≤ 1048576) (h2 : ∀ l, l ∈ p → l.length ≤ 1048576) : Spec Tryz.prog 24 [encPlan p] [] (encPlan p) [] := by
 refine spec_body Tryz.func24 rfl (fun E hE => ?_); simp only [go_sem, Tryz.ntmps24]
 repeat' (first | (with_reducible (show runOps ..); first | (refine Qr rfl ?_; try intro K' hK; try simp only [go_sem, *])) | (with_reducible (show Hold ..); first | refine Qh rfl ?_ | refine s_draw rfl Tryz.mixed (by kernel_rfl) ?_ | (refine s_cond rfl ⟨_, rfl, fun hb => ?_, fun hb => ?_⟩ <;> (have hc := hb; try simp only [go_sem] at hc)) | refine s_ret rfl ?_) | ((with_reducible refine Qb ?_ ?_); focus kernel_rfl) | ((with_reducible refine And.intro ?_ ?_); focus omega) | (refine contA_of hK ?_; clear hK K'; simp only [go_sem, *]) | (simp only [thenA, inBlockA, go_sem, *]))
 refine s_loop rfl (fun zn zN zenv zAs => ∃ (i : Nat), zn = (p.length) - i ∧ i ≤ (p.length) ∧ (NoP i) ∧ zN = 25 ∧ zenv = [(4, iV i), (1, .ptr 0 0), (2, .ptr 1 0), (3, .ptr 2 0)] ∧ zAs = [.box [.list (p.map encStreet)], .box [nilV], .box [.own 3 1 0 i], .box ((p.take i).map encStreet)]) (p.length) ⟨[some 0, some 1, some 2, none], [], _, _, _, (by (simp only [Weak, go_sem, List.map_append, List.map_set, *] <;> (try simp (disch := omega) only [wrap_succ]) <;> (try simp) <;> (try omega))), 0, (by simp), (by simp), (by trivial), rfl, rfl, rfl⟩ ?_; rintro _ _ _ _ ⟨i, rfl, hi, hP, rfl, rfl, rfl⟩
 by_cases hi2 : i < p.length
 ·have hr := h2 _ (getD_mem hi2)
  have e := take_succ_getD (l := p) (i := i) hi2
  repeat' (first | (with_reducible (show runOps ..); first | (refine Qr rfl ?_; try intro K' hK; try simp only [go_sem, *])) | (with_reducible (show Hold ..); first | refine Qh rfl ?_ | refine s_draw rfl Tryz.mixed (by kernel_rfl) ?_ | (refine s_cond rfl ⟨_, rfl, fun hb => ?_, fun hb => ?_⟩ <;> (have hc := hb; try simp only [go_sem] at hc)) | refine s_ret rfl ?_) | (with_reducible (show (∀ _ : AV, _ → _) ∧ _); refine And.intro ?_ ?_; (focus (intro y hy; first | (obtain ⟨z, _, rfl⟩ := List.mem_map.1 (hy); simp [go_sem]; done) | (obtain ⟨z, _, rfl⟩ := List.mem_map.1 (List.mem_of_mem_take hy); simp [go_sem]; done) | (obtain ⟨z, _, rfl⟩ := List.mem_map.1 (List.mem_of_mem_drop hy); simp [go_sem]; done) | (obtain ⟨z, _, rfl⟩ := List.mem_map.1 (List.mem_of_mem_drop (List.mem_of_mem_take hy)); simp [go_sem]; done)))) | ((with_reducible refine Qb ?_ ?_); focus kernel_rfl) | ((with_reducible refine And.intro ?_ ?_); focus omega) | (refine contA_of hK ?_; clear hK K'; simp only [go_sem, *]) | (simp only [thenA, inBlockA, go_sem, *]))
  all_goals first | contradiction | omega | skip
  refine ⟨_, (by omega), [some 0, some 1, some 2, some 7], [5], _, _, _, (by (simp only [Weak, go_sem, List.map_append, List.map_set, *] <;> (try simp (disch := omega) only [wrap_succ]) <;> (try simp) <;> (try omega))), i + 1, rfl, (by omega), (by trivial), rfl, rfl, rfl⟩
 ·have e : p.take i = p := List.take_of_length_le (by omega)
  repeat' (first | (with_reducible (show runOps ..); first | (refine Qr rfl ?_; try intro K' hK; try simp only [go_sem, *])) | (with_reducible (show Hold ..); first | refine Qh rfl ?_ | refine s_draw rfl Tryz.mixed (by kernel_rfl) ?_ | (refine s_cond rfl ⟨_, rfl, fun hb => ?_, fun hb => ?_⟩ <;> (have hc := hb; try simp only [go_sem] at hc)) | refine s_ret rfl ?_) | ((with_reducible refine Qb ?_ ?_); focus kernel_rfl) | ((with_reducible refine And.intro ?_ ?_); focus omega) | (refine contA_of hK ?_; clear hK K'; simp only [go_sem, *]) | (simp only [thenA, inBlockA, go_sem, *]))
  all_goals first | contradiction | omega | skip
  refine ⟨[.agg [.own 3 1 0 i]], [], [3], ⟨by simp only [resOne, go_sem], trivial⟩, ?_⟩
  simp only [go_sem, *]
  simp
  omega
end Go.Abs

