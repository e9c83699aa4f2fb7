/-
  WHAT THE PROOF STANDS ON, PART 6: contracts of the program's functions and the logic that they are proved in. No condition.
-/
import Derived.Test.YtmhleaopjcfjnaaGreatQ5
set_option linter.unusedVariables false
set_option linter.unusedSimpArgs false
set_option linter.unusedSectionVars false
namespace Go.Abs
open Go Go.Proofs
set_option maxRecDepth 10000
set_option maxHeartbeats 4000000
theorem look_house_ok {h : House} {hs : List House} {F : House → AV} {o : Nat} {H : Nat → AObj} {K : Cont} (ho : H o = .mapo (hs.map House.key) (hs.map F)) (hw : ∀ k, k ∈ hs → k.Wf) (hh : h.Wf)
  (hk : K (.tup [if h ∈ hs then F h else .list [], bV (decide (h ∈ hs))]) [o] []) : lookupA Tryz.prog 121 (.mp o) h.enc true H K := by
 obtain ⟨et, h1, h2⟩ := moves_type
 unfold lookupA
 rw [h1, keyA_house]
 simp only [h2, ho]
 refine ⟨keyed_place, keyB_place h hh, by simp [Value.cells, Value.oneCell'], fun q hq => ?_, ?_⟩
 ·obtain ⟨k, hk, rfl⟩ := List.mem_map.1 hq; exact keyB_place k (hw k hk)
 ·rw [lookA_key, hasA_key]; simpa [zAV] using hk
theorem sp_Becomes (p : Plan) (c : Change) (h : House) (hp : p.length ≤ 4294967296) (hwf : h.Wf) :
  Spec Tryz.prog 36 [encPlan p, c.enc, h.enc] [] (.tup [.list ((becomesOf p c h).map House.enc), iV (becomesErr p c h)]) [] := by
 obtain ⟨s1, s2⟩ := sp_made p c hp
 by_cases e : errOf p c = 0
 ·have s := s2 e
  have hc : check p = 0 := by
   unfold errOf at e
   split at e <;> assumption
  have v := (check_zero p).1 hc
  have hcan : can p c = 0 := by unfold errOf at e; rw [if_pos hc] at e; exact e
  have f := Fit.of_can hcan
  have hw := v.wf
  clear s1 s2
  by_cases hm : h ∈ housesOf p
  ·have e1 : becomesErr p c h = 0 := by unfold becomesErr; rw [if_pos e, if_pos hm]
   have e2 : becomesOf p c h = sortH (mv p c h) := by unfold becomesOf; rw [if_pos e1]
   have ss := sp_sorted (mv p c h) (mv_nodup f hm) (by have := mv_len f h; omega)
   rw [e1, e2]
   clear e e1 e2
   have hd : decide (h ∈ housesOf p) = true := by simpa using hm
   refine spec_body Tryz.func36 rfl (fun E hE => ?_); simp only [go_sem, Tryz.ntmps36]
   repeat' (first | (with_reducible (show runOps ..); first | (refine Qr rfl ?_; try intro K' hK; try simp only [go_sem, *])) | (with_reducible (show Hold ..); first | refine Qh rfl ?_ | (refine s_cond rfl ⟨_, rfl, fun hb => ?_, fun hb => ?_⟩ <;> (have hc := hb; try simp only [go_sem] at hc)) | refine s_ret rfl ?_) | (with_reducible (show callA ..); first | (refine call_n (s) ?_ ?_ ?_ ?_; (focus (simp only [go_sem, *]; done)); (focus (first | (simp; done) | (simp [go_sem]; done))); (focus (first | (simp; done) | (simp [go_sem]; done))); simp only [go_sem, *])) | ((with_reducible refine Qb ?_ ?_); focus kernel_rfl) | ((with_reducible refine And.intro ?_ ?_); focus omega) | (refine contA_of hK ?_; clear hK K'; simp only [go_sem, *]) | (simp only [thenA, inBlockA, go_sem, *]))
   all_goals first | contradiction | skip
   refine look_house_ok (h := h) (hs := housesOf p) (F := MapV (mv p c)) (by simp only [go_sem]) hw hwf ?_
   rw [if_pos hm, MapV, hd]
   repeat' (first | (with_reducible (show runOps ..); first | (refine Qr rfl ?_; try intro K' hK; try simp only [go_sem, *])) | (with_reducible (show Hold ..); first | refine Qh rfl ?_ | (refine s_cond rfl ⟨_, rfl, fun hb => ?_, fun hb => ?_⟩ <;> (have hc := hb; try simp only [go_sem] at hc)) | refine s_ret rfl ?_) | (with_reducible (show callA ..); first | (refine call_s (ss) ?_ ?_; (focus (simp only [go_sem, *]; done)); simp only [go_sem, *])) | ((with_reducible refine Qb ?_ ?_); focus kernel_rfl) | ((with_reducible refine And.intro ?_ ?_); focus omega) | (refine contA_of hK ?_; clear hK K'; simp only [go_sem, *]) | (simp only [thenA, inBlockA, go_sem, *]))
   all_goals first | contradiction | skip
   (refine ⟨[_, _], [], [], ⟨rfl, rfl, trivial⟩, ?_⟩; simp only [go_sem, *])
  ·have e1 : becomesErr p c h = 3 := by unfold becomesErr; rw [if_pos e, if_neg hm]
   have e2 : becomesOf p c h = [] := by unfold becomesOf; rw [e1]; rfl
   rw [e1, e2]
   clear e e1 e2
   have hd : decide (h ∈ housesOf p) = false := by simpa using hm
   refine spec_body Tryz.func36 rfl (fun E hE => ?_); simp only [go_sem, Tryz.ntmps36]
   repeat' (first | (with_reducible (show runOps ..); first | (refine Qr rfl ?_; try intro K' hK; try simp only [go_sem, *])) | (with_reducible (show Hold ..); first | refine Qh rfl ?_ | (refine s_cond rfl ⟨_, rfl, fun hb => ?_, fun hb => ?_⟩ <;> (have hc := hb; try simp only [go_sem] at hc)) | refine s_ret rfl ?_) | (with_reducible (show callA ..); first | (refine call_n (s) ?_ ?_ ?_ ?_; (focus (simp only [go_sem, *]; done)); (focus (first | (simp; done) | (simp [go_sem]; done))); (focus (first | (simp; done) | (simp [go_sem]; done))); simp only [go_sem, *])) | ((with_reducible refine Qb ?_ ?_); focus kernel_rfl) | ((with_reducible refine And.intro ?_ ?_); focus omega) | (refine contA_of hK ?_; clear hK K'; simp only [go_sem, *]) | (simp only [thenA, inBlockA, go_sem, *]))
   all_goals first | contradiction | skip
   refine look_house_ok (h := h) (hs := housesOf p) (F := MapV (mv p c)) (by simp only [go_sem]) hw hwf ?_
   rw [if_neg hm, hd]
   repeat' (first | (with_reducible (show runOps ..); first | (refine Qr rfl ?_; try intro K' hK; try simp only [go_sem, *])) | (with_reducible (show Hold ..); first | refine Qh rfl ?_ | (refine s_cond rfl ⟨_, rfl, fun hb => ?_, fun hb => ?_⟩ <;> (have hc := hb; try simp only [go_sem] at hc)) | refine s_ret rfl ?_) | ((with_reducible refine Qb ?_ ?_); focus kernel_rfl) | ((with_reducible refine And.intro ?_ ?_); focus omega) | (refine contA_of hK ?_; clear hK K'; simp only [go_sem, *]) | (simp only [thenA, inBlockA, go_sem, *]))
   all_goals first | contradiction | skip
   (refine ⟨[_, _], [], [], ⟨rfl, rfl, trivial⟩, ?_⟩; simp only [go_sem, *])
 ·have s := s1 e
  have e1 : becomesErr p c h = errOf p c := by unfold becomesErr; rw [if_neg e]
  have e2 : becomesOf p c h = [] := by unfold becomesOf; rw [e1, if_neg e]
  have e3 : (errOf p c == 0) = false := by rw [beq_eq_false_iff_ne]; exact e
  rw [e1, e2]
  clear s1 s2 e1 e2
  generalize errOf p c = er at *
  refine spec_body Tryz.func36 rfl (fun E hE => ?_); simp only [go_sem, Tryz.ntmps36]
  repeat' (first | (with_reducible (show runOps ..); first | (refine Qr rfl ?_; try intro K' hK; try simp only [go_sem, *])) | (with_reducible (show Hold ..); first | refine Qh rfl ?_ | (refine s_cond rfl ⟨_, rfl, fun hb => ?_, fun hb => ?_⟩ <;> (have hc := hb; try simp only [go_sem] at hc)) | refine s_ret rfl ?_) | (with_reducible (show callA ..); first | (refine call_s (s) ?_ ?_; (focus (simp only [go_sem, *]; done)); simp only [go_sem, *])) | ((with_reducible refine Qb ?_ ?_); focus kernel_rfl) | ((with_reducible refine And.intro ?_ ?_); focus omega) | (refine contA_of hK ?_; clear hK K'; simp only [go_sem, *]) | (simp only [thenA, inBlockA, go_sem, *]))
  all_goals first | contradiction | skip
  (refine ⟨[_, _], [], [], ⟨rfl, rfl, trivial⟩, ?_⟩; simp only [go_sem, *])
end Go.Abs

namespace Go.Abs
open Go Go.Proofs
set_option maxRecDepth 10000
set_option maxHeartbeats 4000000
def srcOf (l : List Move) (h : House) : Option House := (l.find? fun m => decide (m.dst = h)).map Move.src
theorem srcOf_yes {l : List Move} {h : House} {i : Nat} (hi : i < l.length) (q : (l.getD i default).dst = h) : srcOf (l.drop i) h = some (l.getD i default).src := by
 unfold srcOf; rw [drop_cons hi, List.find?_cons_of_pos (by simpa using q)]; rfl
theorem srcOf_no {l : List Move} {h : House} {i : Nat} (hi : i < l.length) (q : ¬ (l.getD i default).dst = h) : srcOf (l.drop i) h = srcOf (l.drop (i + 1)) h := by
 unfold srcOf; rw [drop_cons hi, List.find?_cons_of_neg (by simpa using q)]
theorem srcOf_moves (p : Plan) (c : Change) (h : House) : srcOf (movesOf p c) h = wasOf p c h := by
  unfold movesOf wasOf srcOf
  generalize housesOf p = hs
  induction hs with
  | nil => rfl
  | cons x r ih =>
    rw [List.flatMap_cons, List.find?_append, List.find?_cons]
    by_cases q : h ∈ mv p c x
    · have e : ((mv p c x).map fun z => (⟨x, z⟩ : Move)).find? (fun m => decide (m.dst = h)) = some ⟨x, h⟩ := by
        generalize mv p c x = L at q
        induction L with
        | nil => cases q
        | cons y s ihs =>
          rw [List.map_cons, List.find?_cons]
          by_cases e : y = h
          · simp [e]
          · simp only [e, decide_false]
            exact ihs ((List.mem_cons.1 q).resolve_left (fun t => e t.symm))
      simp [e, q]
    · have e : ((mv p c x).map fun z => (⟨x, z⟩ : Move)).find? (fun m => decide (m.dst = h)) = none := by
        rw [List.find?_eq_none]
        intro m hm
        obtain ⟨z, hz, rfl⟩ := List.mem_map.1 hm
        simp only [decide_eq_true_eq]
        rintro rfl; exact q hz
      rw [e, Option.none_or, ih]
      simp [q]
def zeroHouse : House := ⟨0, zeroPlate⟩
theorem sp_rWas_err (p : Plan) (c : Change) (h : House) (hl : p.length ≤ 4294967296) (he : errOf p c ≠ 0) : Spec Tryz.prog 49 [encPlan p, c.enc, h.enc] [] (.tup [.agg [iV 0, iV 0, iV 0], iV (errOf p c)]) [] := by
 have s1 := sp_rcheck p c hl
 have q' : (errOf p c != 0) = true := by simpa using he
 clear he
 generalize errOf p c = R at *
 refine spec_body Tryz.func49 rfl (fun E hE => ?_); simp only [go_sem, Tryz.ntmps49]
 repeat' (first | (with_reducible (show runOps ..); first | (refine Qr rfl ?_; try intro K' hK; try simp only [go_sem, *])) | (with_reducible (show Hold ..); first | refine Qh rfl ?_ | refine s_draw rfl Tryz.mixed (by kernel_rfl) ?_ | (refine s_cond rfl ⟨_, rfl, fun hb => ?_, fun hb => ?_⟩ <;> (have hc := hb; try simp only [go_sem] at hc)) | refine s_ret rfl ?_) | (with_reducible (show callA ..); first | (refine call_s (s1) ?_ ?_; (focus (simp only [go_sem, *]; done)); simp only [go_sem, *])) | ((with_reducible refine Qb ?_ ?_); focus kernel_rfl) | ((with_reducible refine And.intro ?_ ?_); focus omega) | (refine contA_of hK ?_; clear hK K'; simp only [go_sem, *]) | (simp only [thenA, inBlockA, go_sem, *]))
 all_goals first | contradiction | omega | skip
 refine ⟨[.agg [iV 0, iV 0, iV 0], iV R], [], [], ⟨(by simp only [resOne, go_sem]), rfl, trivial⟩, ?_⟩; simp only [go_sem, *]
theorem sp_rWas_some (p : Plan) (c : Change) (h x : House) (v : Valid p) (f : Fit p c) (he : errOf p c = 0) (hw : wasOf p c h = some x) : Spec Tryz.prog 49 [encPlan p, c.enc, h.enc] [] (.tup [x.enc, iV 0]) [] := by
 have s1 := sp_rcheck p c (by have := v.len; omega)
 have s2 := sp_rMoves p c v f
 have hml := moves_len p c
 have hcn := v.count
 have hMb : (movesOf p c).length ≤ 48 := by omega
 rw [he] at s1
 rw [← srcOf_moves] at hw
 have hw0 : srcOf ((movesOf p c).drop 0) h = some x := hw
 clear he hw hml hcn
 generalize movesOf p c = M at *
 refine spec_body Tryz.func49 rfl (fun E hE => ?_); simp only [go_sem, Tryz.ntmps49]
 repeat' (first | (with_reducible (show runOps ..); first | (refine Qr rfl ?_; try intro K' hK; try simp only [go_sem, *])) | (with_reducible (show Hold ..); first | refine Qh rfl ?_ | refine s_draw rfl Tryz.mixed (by kernel_rfl) ?_ | (refine s_cond rfl ⟨_, rfl, fun hb => ?_, fun hb => ?_⟩ <;> (have hc := hb; try simp only [go_sem] at hc)) | refine s_ret rfl ?_) | (with_reducible (show callA ..); first | (refine call_s (s1) ?_ ?_; (focus (simp only [go_sem, *]; done)); simp only [go_sem, *]) | (refine call_n (s2) ?_ ?_ ?_ ?_; (focus (simp only [go_sem, *]; done)); (focus (first | (simp; done) | (simp [go_sem]; done))); (focus (first | (simp; done) | (simp [go_sem]; done))); simp only [go_sem, *])) | ((with_reducible refine Qb ?_ ?_); focus kernel_rfl) | ((with_reducible refine And.intro ?_ ?_); focus omega) | (refine contA_of hK ?_; clear hK K'; simp only [go_sem, *]) | (simp only [thenA, inBlockA, go_sem, *]))
 all_goals first | contradiction | omega | skip
 refine s_loop rfl (fun zn zN zenv zAs => ∃ (i : Nat), zn = (M.length) - i ∧ i ≤ (M.length) ∧ (srcOf (M.drop i) h = some x) ∧ zN = 40 ∧ zenv = [(10, iV i), (9, .own 4 6 0 M.length), (3, .ptr 0 0), (4, .ptr 1 0), (5, .ptr 2 0), (6, .ptr 3 0)] ∧ zAs = [.box [.list (p.map encStreet)], .box [iV c.kind, iV c.street, iV c.other, iV c.src.number, iV c.src.letter, iV c.dst.number, iV c.dst.letter], .box [iV h.street, iV h.plate.number, iV h.plate.letter], .box [iV 0, iV 0, iV 0], .row 6 (M.map Move.enc)]) (M.length) ⟨[some 0, some 1, some 2, some 3, some 4], [], _, _, _, (by (simp only [Weak, go_sem, List.map_append, List.map_set, *] <;> (try simp (disch := omega) only [wrap_succ]) <;> (try simp) <;> (try omega))), 0, (by simp), (by simp), (by exact hw0), rfl, rfl, rfl⟩ ?_; rintro _ _ _ _ ⟨i, rfl, hi, hP, rfl, rfl, rfl⟩
 clear hw0
 by_cases hi : i < M.length
 ·by_cases q : (M.getD i default).dst = h
  ·rw [srcOf_yes hi q] at hP
   have q' : decide ((M.getD i default).dst = h) = true := decide_eq_true q
   have hx : (M.getD i default).src = x := Option.some.inj hP
   clear q hP
   subst hx
   repeat' (first | (with_reducible (show runOps ..); first | (refine Qr rfl ?_; try intro K' hK; try simp only [go_sem, *])) | (with_reducible (show Hold ..); first | refine Qh rfl ?_ | refine s_draw rfl Tryz.mixed (by kernel_rfl) ?_ | (refine s_cond rfl ⟨_, rfl, fun hb => ?_, fun hb => ?_⟩ <;> (have hc := hb; try simp only [go_sem] at hc)) | refine s_ret rfl ?_) | ((with_reducible refine Qb ?_ ?_); focus kernel_rfl) | ((with_reducible refine And.intro ?_ ?_); focus omega) | (refine contA_of hK ?_; clear hK K'; simp only [go_sem, *]) | (simp only [thenA, inBlockA, go_sem, *]))
   all_goals first | contradiction | omega | skip
   refine ⟨[(M.getD i default).src.enc, iV 0], [], [], ⟨(by simp only [resOne, go_sem]), rfl, trivial⟩, ?_⟩; simp only [go_sem, *]
  ·have q' : decide ((M.getD i default).dst = h) = false := decide_eq_false q
   rw [srcOf_no hi q] at hP
   clear q
   repeat' (first | (with_reducible (show runOps ..); first | (refine Qr rfl ?_; try intro K' hK; try simp only [go_sem, *])) | (with_reducible (show Hold ..); first | refine Qh rfl ?_ | refine s_draw rfl Tryz.mixed (by kernel_rfl) ?_ | (refine s_cond rfl ⟨_, rfl, fun hb => ?_, fun hb => ?_⟩ <;> (have hc := hb; try simp only [go_sem] at hc)) | refine s_ret rfl ?_) | ((with_reducible refine Qb ?_ ?_); focus kernel_rfl) | ((with_reducible refine And.intro ?_ ?_); focus omega) | (refine contA_of hK ?_; clear hK K'; simp only [go_sem, *]) | (simp only [thenA, inBlockA, go_sem, *]))
   all_goals first | contradiction | omega | skip
   refine ⟨_, (by omega), [some 0, some 1, some 2, some 3, some 4], [], _, _, _, (by (simp only [Weak, go_sem, List.map_append, List.map_set, *] <;> (try simp (disch := omega) only [wrap_succ]) <;> (try simp) <;> (try omega))), i + 1, rfl, (by omega), (by exact hP), rfl, rfl, rfl⟩
 ·rw [drop_end (by omega)] at hP
  cases hP
theorem sp_rWas_none (p : Plan) (c : Change) (h : House) (v : Valid p) (f : Fit p c) (he : errOf p c = 0) (hw : wasOf p c h = none) : Spec Tryz.prog 49 [encPlan p, c.enc, h.enc] [] (.tup [.agg [iV 0, iV 0, iV 0], iV 3]) [] := by
 have s1 := sp_rcheck p c (by have := v.len; omega)
 have s2 := sp_rMoves p c v f
 have hml := moves_len p c
 have hcn := v.count
 have hMb : (movesOf p c).length ≤ 48 := by omega
 rw [he] at s1
 rw [← srcOf_moves] at hw
 have hw0 : srcOf ((movesOf p c).drop 0) h = none := hw
 clear he hw hml hcn
 generalize movesOf p c = M at *
 refine spec_body Tryz.func49 rfl (fun E hE => ?_); simp only [go_sem, Tryz.ntmps49]
 repeat' (first | (with_reducible (show runOps ..); first | (refine Qr rfl ?_; try intro K' hK; try simp only [go_sem, *])) | (with_reducible (show Hold ..); first | refine Qh rfl ?_ | refine s_draw rfl Tryz.mixed (by kernel_rfl) ?_ | (refine s_cond rfl ⟨_, rfl, fun hb => ?_, fun hb => ?_⟩ <;> (have hc := hb; try simp only [go_sem] at hc)) | refine s_ret rfl ?_) | (with_reducible (show callA ..); first | (refine call_s (s1) ?_ ?_; (focus (simp only [go_sem, *]; done)); simp only [go_sem, *]) | (refine call_n (s2) ?_ ?_ ?_ ?_; (focus (simp only [go_sem, *]; done)); (focus (first | (simp; done) | (simp [go_sem]; done))); (focus (first | (simp; done) | (simp [go_sem]; done))); simp only [go_sem, *])) | ((with_reducible refine Qb ?_ ?_); focus kernel_rfl) | ((with_reducible refine And.intro ?_ ?_); focus omega) | (refine contA_of hK ?_; clear hK K'; simp only [go_sem, *]) | (simp only [thenA, inBlockA, go_sem, *]))
 all_goals first | contradiction | omega | skip
 refine s_loop rfl (fun zn zN zenv zAs => ∃ (i : Nat), zn = (M.length) - i ∧ i ≤ (M.length) ∧ (srcOf (M.drop i) h = none) ∧ zN = 40 ∧ zenv = [(10, iV i), (9, .own 4 6 0 M.length), (3, .ptr 0 0), (4, .ptr 1 0), (5, .ptr 2 0), (6, .ptr 3 0)] ∧ zAs = [.box [.list (p.map encStreet)], .box [iV c.kind, iV c.street, iV c.other, iV c.src.number, iV c.src.letter, iV c.dst.number, iV c.dst.letter], .box [iV h.street, iV h.plate.number, iV h.plate.letter], .box [iV 0, iV 0, iV 0], .row 6 (M.map Move.enc)]) (M.length) ⟨[some 0, some 1, some 2, some 3, some 4], [], _, _, _, (by (simp only [Weak, go_sem, List.map_append, List.map_set, *] <;> (try simp (disch := omega) only [wrap_succ]) <;> (try simp) <;> (try omega))), 0, (by simp), (by simp), (by exact hw0), rfl, rfl, rfl⟩ ?_; rintro _ _ _ _ ⟨i, rfl, hi, hP, rfl, rfl, rfl⟩
 clear hw0
 by_cases hi : i < M.length
 ·by_cases q : (M.getD i default).dst = h
  ·rw [srcOf_yes hi q] at hP
   cases hP
  ·have q' : decide ((M.getD i default).dst = h) = false := decide_eq_false q
   rw [srcOf_no hi q] at hP
   clear q
   repeat' (first | (with_reducible (show runOps ..); first | (refine Qr rfl ?_; try intro K' hK; try simp only [go_sem, *])) | (with_reducible (show Hold ..); first | refine Qh rfl ?_ | refine s_draw rfl Tryz.mixed (by kernel_rfl) ?_ | (refine s_cond rfl ⟨_, rfl, fun hb => ?_, fun hb => ?_⟩ <;> (have hc := hb; try simp only [go_sem] at hc)) | refine s_ret rfl ?_) | ((with_reducible refine Qb ?_ ?_); focus kernel_rfl) | ((with_reducible refine And.intro ?_ ?_); focus omega) | (refine contA_of hK ?_; clear hK K'; simp only [go_sem, *]) | (simp only [thenA, inBlockA, go_sem, *]))
   all_goals first | contradiction | omega | skip
   refine ⟨_, (by omega), [some 0, some 1, some 2, some 3, some 4], [], _, _, _, (by (simp only [Weak, go_sem, List.map_append, List.map_set, *] <;> (try simp (disch := omega) only [wrap_succ]) <;> (try simp) <;> (try omega))), i + 1, rfl, (by omega), (by exact hP), rfl, rfl, rfl⟩
 ·repeat' (first | (with_reducible (show runOps ..); first | (refine Qr rfl ?_; try intro K' hK; try simp only [go_sem, *])) | (with_reducible (show Hold ..); first | refine Qh rfl ?_ | refine s_draw rfl Tryz.mixed (by kernel_rfl) ?_ | (refine s_cond rfl ⟨_, rfl, fun hb => ?_, fun hb => ?_⟩ <;> (have hc := hb; try simp only [go_sem] at hc)) | refine s_ret rfl ?_) | ((with_reducible refine Qb ?_ ?_); focus kernel_rfl) | ((with_reducible refine And.intro ?_ ?_); focus omega) | (refine contA_of hK ?_; clear hK K'; simp only [go_sem, *]) | (simp only [thenA, inBlockA, go_sem, *]))
  all_goals first | contradiction | omega | skip
  refine ⟨[.agg [iV 0, iV 0, iV 0], iV 3], [], [], ⟨(by simp only [resOne, go_sem]), rfl, trivial⟩, ?_⟩; simp only [go_sem, *]
end Go.Abs

namespace Go.Abs
open Go Go.Proofs
set_option maxRecDepth 10000
set_option maxHeartbeats 4000000
theorem sp_rHas (p : Plan) (h : House) (h1 : p.length ≤ 1048576) (h2 : ∀ l, l ∈ p → l.length ≤ 1048576) : Spec Tryz.prog 104 [encPlan p, h.enc] [] (bV (decide (h ∈ housesOf p))) [] := by
 have s1 := sp_within h.street 0 ((p.length : Int) - 1)
 have w1 : IntKind.i64.wrap ((p.length : Int) - 1) = (p.length : Int) - 1 := wrap_i64 (by omega) (by omega)
 by_cases q : 0 ≤ h.street ∧ h.street ≤ (p.length : Int) - 1
 ·have b : betw h.street 0 ((p.length : Int) - 1) = true := betw_iff.2 q
  rw [b] at s1
  clear b
  obtain ⟨q1, q2⟩ := q
  have hs' : h.street.toNat < p.length := by omega
  have hl : (rowAt p h.street).length ≤ 1048576 := by
   unfold rowAt; exact h2 _ (getD_mem hs')
  have hR : decide (h ∈ housesOf p) = decide (h.plate ∈ rowAt p h.street) := by
   rw [decide_eq_decide, mem_houses]
   exact ⟨fun e => e.2.2, fun e => ⟨q1, by omega, e⟩⟩
  rw [hR]
  clear hR
  refine spec_body Tryz.func104 rfl (fun E hE => ?_); simp only [go_sem, Tryz.ntmps104]
  repeat' (first | (with_reducible (show runOps ..); first | (refine Qr rfl ?_; try intro K' hK; try simp only [go_sem, *])) | (with_reducible (show Hold ..); first | refine Qh rfl ?_ | refine s_draw rfl Tryz.mixed (by kernel_rfl) ?_ | (refine s_cond rfl ⟨_, rfl, fun hb => ?_, fun hb => ?_⟩ <;> (have hc := hb; try simp only [go_sem] at hc)) | refine s_ret rfl ?_) | (with_reducible (show callA ..); first | (refine call_s (s1) ?_ ?_; (focus (simp only [go_sem, *]; done)); simp only [go_sem, *])) | ((with_reducible refine Qb ?_ ?_); focus kernel_rfl) | ((with_reducible refine And.intro ?_ ?_); focus omega) | (refine contA_of hK ?_; clear hK K'; simp only [go_sem, *]) | (simp only [thenA, inBlockA, go_sem, *]))
  all_goals first | contradiction | omega | skip
  generalize hll : rowAt p h.street = l at *
  refine s_loop rfl (fun zn zN zenv zAs => ∃ (i : Nat), zn = (l.length) - i ∧ i ≤ (l.length) ∧ (h.plate ∉ l.take i) ∧ zN = 37 ∧ zenv = [(5, iV i), (2, .ptr 0 0), (3, .ptr 1 0)] ∧ zAs = [.box [.list (p.map encStreet)], .box [iV h.street, iV h.plate.number, iV h.plate.letter]]) (l.length) ⟨[some 0, some 1], [], _, _, _, (by (simp only [Weak, go_sem, List.map_append, List.map_set, *] <;> (try simp (disch := omega) only [wrap_succ]) <;> (try simp) <;> (try omega))), 0, (by simp), (by simp), (by simp), rfl, rfl, rfl⟩ ?_; rintro _ _ _ _ ⟨i, rfl, hi, hP, rfl, rfl, rfl⟩
  by_cases hi : i < l.length
  ·by_cases q : l.getD i default = h.plate
   ·have q' : decide (l.getD i default = h.plate) = true := decide_eq_true q
    have hm : decide (h.plate ∈ l) = true := decide_eq_true (by rw [← q]; exact getD_mem hi)
    clear q
    rw [hm]
    repeat' (first | (with_reducible (show runOps ..); first | (refine Qr rfl ?_; try intro K' hK; try simp only [go_sem, *])) | (with_reducible (show Hold ..); first | refine Qh rfl ?_ | refine s_draw rfl Tryz.mixed (by kernel_rfl) ?_ | (refine s_cond rfl ⟨_, rfl, fun hb => ?_, fun hb => ?_⟩ <;> (have hc := hb; try simp only [go_sem] at hc)) | refine s_ret rfl ?_) | ((with_reducible refine Qb ?_ ?_); focus kernel_rfl) | ((with_reducible refine And.intro ?_ ?_); focus omega) | (refine contA_of hK ?_; clear hK K'; simp only [go_sem, *]) | (simp only [thenA, inBlockA, go_sem, *]))
    all_goals first | contradiction | omega | skip
    (refine ⟨[_], [], [], ⟨rfl, trivial⟩, ?_⟩; simp only [go_sem, *])
   ·have q' : decide (l.getD i default = h.plate) = false := decide_eq_false q
    repeat' (first | (with_reducible (show runOps ..); first | (refine Qr rfl ?_; try intro K' hK; try simp only [go_sem, *])) | (with_reducible (show Hold ..); first | refine Qh rfl ?_ | refine s_draw rfl Tryz.mixed (by kernel_rfl) ?_ | (refine s_cond rfl ⟨_, rfl, fun hb => ?_, fun hb => ?_⟩ <;> (have hc := hb; try simp only [go_sem] at hc)) | refine s_ret rfl ?_) | ((with_reducible refine Qb ?_ ?_); focus kernel_rfl) | ((with_reducible refine And.intro ?_ ?_); focus omega) | (refine contA_of hK ?_; clear hK K'; simp only [go_sem, *]) | (simp only [thenA, inBlockA, go_sem, *]))
    all_goals first | contradiction | omega | skip
    refine ⟨_, (by omega), [some 0, some 1], [], _, _, _, (by (simp only [Weak, go_sem, List.map_append, List.map_set, *] <;> (try simp (disch := omega) only [wrap_succ]) <;> (try simp) <;> (try omega))), i + 1, rfl, (by omega), (by exact take_notin hi hP q), rfl, rfl, rfl⟩
  ·rw [List.take_of_length_le (by omega)] at hP
   have hm : decide (h.plate ∈ l) = false := decide_eq_false hP
   rw [hm]
   repeat' (first | (with_reducible (show runOps ..); first | (refine Qr rfl ?_; try intro K' hK; try simp only [go_sem, *])) | (with_reducible (show Hold ..); first | refine Qh rfl ?_ | refine s_draw rfl Tryz.mixed (by kernel_rfl) ?_ | (refine s_cond rfl ⟨_, rfl, fun hb => ?_, fun hb => ?_⟩ <;> (have hc := hb; try simp only [go_sem] at hc)) | refine s_ret rfl ?_) | ((with_reducible refine Qb ?_ ?_); focus kernel_rfl) | ((with_reducible refine And.intro ?_ ?_); focus omega) | (refine contA_of hK ?_; clear hK K'; simp only [go_sem, *]) | (simp only [thenA, inBlockA, go_sem, *]))
   all_goals first | contradiction | omega | skip
   (refine ⟨[_], [], [], ⟨rfl, trivial⟩, ?_⟩; simp only [go_sem, *])
 ·have b : betw h.street 0 ((p.length : Int) - 1) = false := betw_no.2 q
  rw [b] at s1
  have hm : decide (h ∈ housesOf p) = false := decide_eq_false (fun e => q ⟨(mem_houses.1 e).1, by have := (mem_houses.1 e).2.1; omega⟩)
  rw [hm]
  clear b hm q
  refine spec_body Tryz.func104 rfl (fun E hE => ?_); simp only [go_sem, Tryz.ntmps104]
  repeat' (first | (with_reducible (show runOps ..); first | (refine Qr rfl ?_; try intro K' hK; try simp only [go_sem, *])) | (with_reducible (show Hold ..); first | refine Qh rfl ?_ | refine s_draw rfl Tryz.mixed (by kernel_rfl) ?_ | (refine s_cond rfl ⟨_, rfl, fun hb => ?_, fun hb => ?_⟩ <;> (have hc := hb; try simp only [go_sem] at hc)) | refine s_ret rfl ?_) | (with_reducible (show callA ..); first | (refine call_s (s1) ?_ ?_; (focus (simp only [go_sem, *]; done)); simp only [go_sem, *])) | ((with_reducible refine Qb ?_ ?_); focus kernel_rfl) | ((with_reducible refine And.intro ?_ ?_); focus omega) | (refine contA_of hK ?_; clear hK K'; simp only [go_sem, *]) | (simp only [thenA, inBlockA, go_sem, *]))
  all_goals first | contradiction | omega | skip
  (refine ⟨[_], [], [], ⟨rfl, trivial⟩, ?_⟩; simp only [go_sem, *])
end Go.Abs

namespace Go.Abs
open Go Go.Proofs
set_option maxRecDepth 10000
set_option maxHeartbeats 4000000
def dstOf (l : List Move) (h : House) : List House := (l.filter fun m => decide (m.src = h)).map Move.dst
theorem dstOf_yes {l : List Move} {h : House} {i : Nat} (hi : i < l.length) (q : (l.getD i default).src = h) : dstOf (l.drop i) h = (l.getD i default).dst :: dstOf (l.drop (i + 1)) h := by
 unfold dstOf; rw [drop_cons hi, List.filter_cons_of_pos (by simpa using q)]; rfl
theorem dstOf_no {l : List Move} {h : House} {i : Nat} (hi : i < l.length) (q : ¬ (l.getD i default).src = h) : dstOf (l.drop i) h = dstOf (l.drop (i + 1)) h := by
 unfold dstOf; rw [drop_cons hi, List.filter_cons_of_neg (by simpa using q)]
theorem dstOf_mvs (p : Plan) (c : Change) (x h : House) : (((mv p c x).map fun z => (⟨x, z⟩ : Move)).filter fun m => decide (m.src = h)).map Move.dst = if x = h then mv p c x else [] := by
 by_cases q : x = h
 ·rw [if_pos q, List.filter_eq_self.2 (fun m hm => by obtain ⟨z, _, rfl⟩ := List.mem_map.1 hm; simpa using q)]
  simp [Function.comp_def]
 ·rw [if_neg q, List.filter_eq_nil_iff.2 (fun m hm => by obtain ⟨z, _, rfl⟩ := List.mem_map.1 hm; simpa using q)]
  rfl
theorem dstOf_moves (p : Plan) (c : Change) {h : House} (hn : (housesOf p).Nodup) (hm : h ∈ housesOf p) : dstOf (movesOf p c) h = mv p c h := by
 unfold movesOf
 generalize housesOf p = hs at *
 have key : ∀ l : List House, l.Nodup → dstOf (l.flatMap fun h => (mv p c h).map fun z => (⟨h, z⟩ : Move)) h = if h ∈ l then mv p c h else [] := by
  intro l
  induction l with
  | nil => intro _; rfl
  | cons x r ih =>
   intro hn
   have hx := (List.nodup_cons.1 hn)
   have i := ih hx.2
   unfold dstOf at i ⊢
   rw [List.flatMap_cons, List.filter_append, List.map_append, i, dstOf_mvs]
   by_cases q : x = h
   ·subst q; simp [hx.1]
   ·have q' : ¬ h = x := fun e => q e.symm
    simp [q, q']
 rw [key hs hn, if_pos hm]
theorem sp_rBecomes_err (p : Plan) (c : Change) (h : House) (hl : p.length ≤ 4294967296) (he : errOf p c ≠ 0) : Spec Tryz.prog 47 [encPlan p, c.enc, h.enc] [] (.tup [.list [], iV (errOf p c)]) [] := by
 have s1 := sp_rcheck p c hl
 have q' : (errOf p c != 0) = true := by simpa using he
 clear he
 generalize errOf p c = R at *
 refine spec_body Tryz.func47 rfl (fun E hE => ?_); simp only [go_sem, Tryz.ntmps47]
 repeat' (first | (with_reducible (show runOps ..); first | (refine Qr rfl ?_; try intro K' hK; try simp only [go_sem, *])) | (with_reducible (show Hold ..); first | refine Qh rfl ?_ | refine s_draw rfl Tryz.mixed (by kernel_rfl) ?_ | (refine s_cond rfl ⟨_, rfl, fun hb => ?_, fun hb => ?_⟩ <;> (have hc := hb; try simp only [go_sem] at hc)) | refine s_ret rfl ?_) | (with_reducible (show callA ..); first | (refine call_s (s1) ?_ ?_; (focus (simp only [go_sem, *]; done)); simp only [go_sem, *])) | ((with_reducible refine Qb ?_ ?_); focus kernel_rfl) | ((with_reducible refine And.intro ?_ ?_); focus omega) | (refine contA_of hK ?_; clear hK K'; simp only [go_sem, *]) | (simp only [thenA, inBlockA, go_sem, *]))
 all_goals first | contradiction | omega | skip
 refine ⟨[nilV, iV R], [], [], ⟨rfl, rfl, trivial⟩, ?_⟩; simp only [go_sem, *]
theorem sp_rBecomes_no (p : Plan) (c : Change) (h : House) (v : Valid p) (he : errOf p c = 0) (hm : h ∉ housesOf p) : Spec Tryz.prog 47 [encPlan p, c.enc, h.enc] [] (.tup [.list [], iV 3]) [] := by
 have s1 := sp_rcheck p c (by have := v.len; omega)
 have s2 := sp_rHas p h (by have := v.len; omega) (fun l hl => by have := (v.rows l hl).len; omega)
 rw [he] at s1
 rw [decide_eq_false hm] at s2
 clear he hm
 refine spec_body Tryz.func47 rfl (fun E hE => ?_); simp only [go_sem, Tryz.ntmps47]
 repeat' (first | (with_reducible (show runOps ..); first | (refine Qr rfl ?_; try intro K' hK; try simp only [go_sem, *])) | (with_reducible (show Hold ..); first | refine Qh rfl ?_ | refine s_draw rfl Tryz.mixed (by kernel_rfl) ?_ | (refine s_cond rfl ⟨_, rfl, fun hb => ?_, fun hb => ?_⟩ <;> (have hc := hb; try simp only [go_sem] at hc)) | refine s_ret rfl ?_) | (with_reducible (show callA ..); first | ((first | refine call_s (s1) ?_ ?_ | refine call_s (s2) ?_ ?_); (focus (simp only [go_sem, *]; done)); simp only [go_sem, *])) | ((with_reducible refine Qb ?_ ?_); focus kernel_rfl) | ((with_reducible refine And.intro ?_ ?_); focus omega) | (refine contA_of hK ?_; clear hK K'; simp only [go_sem, *]) | (simp only [thenA, inBlockA, go_sem, *]))
 all_goals first | contradiction | omega | skip
 refine ⟨[nilV, iV 3], [], [], ⟨rfl, rfl, trivial⟩, ?_⟩; simp only [go_sem, *]
theorem sp_rBecomes_ok (p : Plan) (c : Change) (h : House) (v : Valid p) (f : Fit p c) (hn : (housesOf p).Nodup) (he : errOf p c = 0) (hm : h ∈ housesOf p) : Spec Tryz.prog 47 [encPlan p, c.enc, h.enc] [] (.tup [encHouses (sortH (mv p c h)), iV 0]) [] := by
 have s1 := sp_rcheck p c (by have := v.len; omega)
 have s2 := sp_rHas p h (by have := v.len; omega) (fun l hl => by have := (v.rows l hl).len; omega)
 have s3 := sp_rMoves p c v f
 have hL := dstOf_moves p c hn hm
 have hLl := mv_len_all p c h
 have s4 := sp_rSorted (mv p c h) (by omega)
 have hml := moves_len p c
 have hcn := v.count
 have hMb : (movesOf p c).length ≤ 48 := by omega
 rw [he] at s1
 rw [decide_eq_true hm] at s2
 have hL0 : ([] : List House) ++ dstOf ((movesOf p c).drop 0) h = mv p c h := hL
 clear he hm hn hml hcn hL
 generalize sortH (mv p c h) = S at *
 generalize mv p c h = L at *
 generalize movesOf p c = M at *
 refine spec_body Tryz.func47 rfl (fun E hE => ?_); simp only [go_sem, Tryz.ntmps47]
 repeat' (first | (with_reducible (show runOps ..); first | (refine Qr rfl ?_; try intro K' hK; try simp only [go_sem, *])) | (with_reducible (show Hold ..); first | refine Qh rfl ?_ | refine s_draw rfl Tryz.mixed (by kernel_rfl) ?_ | (refine s_cond rfl ⟨_, rfl, fun hb => ?_, fun hb => ?_⟩ <;> (have hc := hb; try simp only [go_sem] at hc)) | refine s_ret rfl ?_) | (with_reducible (show callA ..); first | ((first | refine call_s (s1) ?_ ?_ | refine call_s (s2) ?_ ?_); (focus (simp only [go_sem, *]; done)); simp only [go_sem, *]) | (refine call_n (s3) ?_ ?_ ?_ ?_; (focus (simp only [go_sem, *]; done)); (focus (first | (simp; done) | (simp [go_sem]; done))); (focus (first | (simp; done) | (simp [go_sem]; done))); simp only [go_sem, *])) | ((with_reducible refine Qb ?_ ?_); focus kernel_rfl) | ((with_reducible refine And.intro ?_ ?_); focus omega) | (refine contA_of hK ?_; clear hK K'; simp only [go_sem, *]) | (simp only [thenA, inBlockA, go_sem, *]))
 all_goals first | contradiction | omega | skip
 refine s_loop rfl (fun zn zN zenv zAs => ∃ (i : Nat) (acc : List House), zn = (M.length) - i ∧ i ≤ (M.length) ∧ (acc ++ dstOf (M.drop i) h = L) ∧ zN = 48 ∧ zenv = [(11, iV i), (10, .own 3 6 0 M.length), (9, .own 4 3 0 acc.length), (3, .ptr 0 0), (4, .ptr 1 0), (5, .ptr 2 0)] ∧ zAs = [.box [.list (p.map encStreet)], .box [iV c.kind, iV c.street, iV c.other, iV c.src.number, iV c.src.letter, iV c.dst.number, iV c.dst.letter], .box [iV h.street, iV h.plate.number, iV h.plate.letter], .row 6 (M.map Move.enc), .row 3 (acc.map House.enc)]) (M.length) ⟨[some 0, some 1, some 2, some 3, none], [], _, _, _, (by (simp only [Weak, go_sem, List.map_append, List.map_set, *] <;> (try simp (disch := omega) only [wrap_succ]) <;> (try simp) <;> (try omega))), 0, [], (by simp), (by simp), (by exact hL0), rfl, rfl, rfl⟩ ?_; rintro _ _ _ _ ⟨i, acc, rfl, hi, hP, rfl, rfl, rfl⟩
 clear hL0
 have hlen1 := congrArg List.length hP
 simp only [List.length_append] at hlen1
 by_cases hi : i < M.length
 ·by_cases q : (M.getD i default).src = h
  ·rw [dstOf_yes hi q] at hP
   have q' : decide ((M.getD i default).src = h) = true := decide_eq_true q
   clear q
   repeat' (first | (with_reducible (show runOps ..); first | (refine Qr rfl ?_; try intro K' hK; try simp only [go_sem, *])) | (with_reducible (show Hold ..); first | refine Qh rfl ?_ | refine s_draw rfl Tryz.mixed (by kernel_rfl) ?_ | (refine s_cond rfl ⟨_, rfl, fun hb => ?_, fun hb => ?_⟩ <;> (have hc := hb; try simp only [go_sem] at hc)) | refine s_ret rfl ?_) | ((with_reducible refine Qb ?_ ?_); focus kernel_rfl) | ((with_reducible refine And.intro ?_ ?_); focus omega) | (refine contA_of hK ?_; clear hK K'; simp only [go_sem, *]) | (simp only [thenA, inBlockA, go_sem, *]))
   all_goals first | contradiction | omega | skip
   refine ⟨_, (by omega), [some 0, some 1, some 2, some 3, some 6], [], _, _, _, (by (simp only [Weak, go_sem, List.map_append, List.map_set, *] <;> (try simp (disch := omega) only [wrap_succ]) <;> (try simp) <;> (try omega))), i + 1, acc ++ [(M.getD i default).dst], rfl, (by omega), (by rw [← hP]; simp), rfl, rfl, rfl⟩
  ·have q' : decide ((M.getD i default).src = h) = false := decide_eq_false q
   rw [dstOf_no hi q] at hP
   clear q
   repeat' (first | (with_reducible (show runOps ..); first | (refine Qr rfl ?_; try intro K' hK; try simp only [go_sem, *])) | (with_reducible (show Hold ..); first | refine Qh rfl ?_ | refine s_draw rfl Tryz.mixed (by kernel_rfl) ?_ | (refine s_cond rfl ⟨_, rfl, fun hb => ?_, fun hb => ?_⟩ <;> (have hc := hb; try simp only [go_sem] at hc)) | refine s_ret rfl ?_) | ((with_reducible refine Qb ?_ ?_); focus kernel_rfl) | ((with_reducible refine And.intro ?_ ?_); focus omega) | (refine contA_of hK ?_; clear hK K'; simp only [go_sem, *]) | (simp only [thenA, inBlockA, go_sem, *]))
   all_goals first | contradiction | omega | skip
   refine ⟨_, (by omega), [some 0, some 1, some 2, some 3, some 4], [], _, _, _, (by (simp only [Weak, go_sem, List.map_append, List.map_set, *] <;> (try simp (disch := omega) only [wrap_succ]) <;> (try simp) <;> (try omega))), i + 1, acc, rfl, (by omega), (by exact hP), rfl, rfl, rfl⟩
 ·have e : dstOf (M.drop i) h = [] := by rw [drop_end (by omega)]; rfl
  rw [e, List.append_nil] at hP
  clear e
  subst hP
  repeat' (first | (with_reducible (show runOps ..); first | (refine Qr rfl ?_; try intro K' hK; try simp only [go_sem, *])) | (with_reducible (show Hold ..); first | refine Qh rfl ?_ | refine s_draw rfl Tryz.mixed (by kernel_rfl) ?_ | (refine s_cond rfl ⟨_, rfl, fun hb => ?_, fun hb => ?_⟩ <;> (have hc := hb; try simp only [go_sem] at hc)) | refine s_ret rfl ?_) | ((with_reducible refine Qb ?_ ?_); focus kernel_rfl) | ((with_reducible refine And.intro ?_ ?_); focus omega) | (refine contA_of hK ?_; clear hK K'; simp only [go_sem, *]) | (simp only [thenA, inBlockA, go_sem, *]))
  all_goals first | contradiction | omega | skip
  (refine call_fz (s4) (by simp only [go_sem, *]; done) rfl (by simp only [go_sem]; done) (by simp) (by simp) ?_; simp only [go_sem, deads, *])
  repeat' (first | (with_reducible (show runOps ..); first | (refine Qr rfl ?_; try intro K' hK; try simp only [go_sem, *])) | (with_reducible (show Hold ..); first | refine Qh rfl ?_ | refine s_draw rfl Tryz.mixed (by kernel_rfl) ?_ | (refine s_cond rfl ⟨_, rfl, fun hb => ?_, fun hb => ?_⟩ <;> (have hc := hb; try simp only [go_sem] at hc)) | refine s_ret rfl ?_) | ((with_reducible refine Qb ?_ ?_); focus kernel_rfl) | ((with_reducible refine And.intro ?_ ?_); focus omega) | (refine contA_of hK ?_; clear hK K'; simp only [go_sem, *]) | (simp only [thenA, inBlockA, go_sem, *]))
  all_goals first | contradiction | omega | skip
  refine ⟨[encHouses S, iV 0], [], [], ⟨rfl, rfl, trivial⟩, ?_⟩; simp only [go_sem, *]
end Go.Abs

namespace Go.Abs
open Go Go.Proofs
set_option maxRecDepth 10000
theorem sp_rAfter (p : Plan) (c : Change) (hp : p.length ≤ 4294967296) :
  Spec Tryz.prog 26 [encPlan p, c.enc] [] (.tup [encPlan (if errOf p c = 0 then afterOf p c else []), iV (errOf p c)]) [] := by
 by_cases e : errOf p c = 0
 ·obtain ⟨v, f⟩ := err_zero e
  have s := sp_rAfter_ok p c v f e
  rw [if_pos e, e]; exact s
 ·have s := sp_rAfter_err p c hp e
  rw [if_neg e]; exact s
theorem sp_rBecomes (p : Plan) (c : Change) (h : House) (hp : p.length ≤ 4294967296) :
  Spec Tryz.prog 47 [encPlan p, c.enc, h.enc] [] (.tup [encHouses (becomesOf p c h), iV (becomesErr p c h)]) [] := by
 rcases @becomes_case p c h with ⟨e, h1, h2⟩ | ⟨e, m, h1, h2⟩ | ⟨e, m, h1, h2⟩
 ·rw [h1, h2]; exact sp_rBecomes_err p c h hp e
 ·obtain ⟨v, f⟩ := err_zero e
  rw [h1, h2]; exact sp_rBecomes_no p c h v e m
 ·obtain ⟨v, f⟩ := err_zero e
  rw [h1, h2]; exact sp_rBecomes_ok p c h v f (strict_houses v).nodup e m
theorem sp_rWas (p : Plan) (c : Change) (h : House) (hp : p.length ≤ 4294967296) :
  Spec Tryz.prog 49 [encPlan p, c.enc, h.enc] [] (.tup [(wasH p c h).enc, iV (wasErr p c h)]) [] := by
 rcases @was_case p c h with ⟨e, h1, h2⟩ | ⟨e, m, h1, h2⟩ | ⟨e, h1, h2⟩
 ·rw [h1, h2]; exact sp_rWas_err p c h hp e
 ·obtain ⟨v, f⟩ := err_zero e
  rw [h1, h2]; exact sp_rWas_none p c h v f e m
 ·obtain ⟨v, f⟩ := err_zero e
  rw [h1]; exact sp_rWas_some p c h _ v f e h2
end Go.Abs

namespace Go.Abs
open Go Go.Proofs
set_option maxRecDepth 10000
set_option maxHeartbeats 4000000
theorem spec_map0 {P : Program} {f : FuncId} {args : List AV} {x : Value} {ks : List Value} {xs : List AV} (sp : Spec P f args [] (.tup [.mp 0, .raw x]) [.mapo ks xs]) : Spec P f args [] (.tup [.fmap ks xs, .raw x]) [.dead] := by
 intro w I loc vs hs hl hv
 refine (sp w I loc vs hs hl hv).mono ?_
 rintro e w' ⟨v, I', loc', rfl, hp⟩
 have hsr := hp.sr.freeze [0]
 have hval := hp.val
 cases hval with
 | pure h => cases h
 | tup cs vs' hc hcs =>
  have h0 := hcs 0 (by simp) (by rw [← hc]; simp)
  have h1 := hcs 1 (by simp) (by rw [← hc]; simp)
  have g0 := frzV_VR hp.sr (fs := [0]) (n := 3) h0 (fun o ho => ho)
  have g1 : VR w' (immX (Go.Abs.hs [.mapo ks xs]).obj (· ∈ [0]) loc' I') loc' (.raw x) (vs'[1]'(by rw [← hc]; simp)) := by
   cases h1 with
   | pure h => exact .pure (h.mono (fun _ _ => rfl) (fun b hb => .inl hb))
  refine ⟨_, _, loc', rfl, ⟨hsr.congr rfl (fun t => rfl) (fun o => ?_), .tup [_, _] vs' hc (fun i h h' => ?_), by simp⟩⟩
  ·by_cases ho : 0 = o
   ·subst ho; rfl
   ·simp [Go.Abs.hs, numO, AS.obj, lkO, killL, AS.setO, ho]
  ·match i, h with
   | 0, _ => exact g0
   | 1, _ => exact g1
def WaP (hs rem : List House) (g : House → List House) (h : House) (i : Nat) : Prop := rem.length + i = hs.length ∧ (∀ x, x ∈ rem → x ∈ hs) ∧ ∀ x, x ∈ hs → x ∈ rem ∨ h ∉ g x
theorem sp_Was_go (p : Plan) (c : Change) (h : House) (v : Valid p) (f : Fit p c) (he : errOf p c = 0) (R : AV) (hR : ∀ x, wasOf p c h = some x → R = .tup [x.enc, iV 0]) (hN : wasOf p c h = none → R = .tup [zeroH.enc, iV 3]) :
  Spec Tryz.prog 48 [encPlan p, c.enc, h.enc] [] R [] := by
 have s := spec_map0 ((sp_made p c (by have := v.len; omega)).2 he)
 have hmt : (mapT Tryz.prog 121).isSome = true := by kernel_rfl
 have h0 : WaP (housesOf p) (housesOf p) (mv p c) h 0 := ⟨rfl, fun x hx => hx, fun x hx => .inl hx⟩
 have hml := mv_len_all p c
 have hwu := fun x (hx : x ∈ housesOf p) hm => was_uniq (h := h) v f hx hm
 refine spec_body Tryz.func48 rfl (fun E hE => ?_); simp only [go_sem, Tryz.ntmps48]
 repeat' (first | (with_reducible (show runOps ..); first | (refine Qr rfl ?_; try intro K' hK; try simp only [go_sem, *])) | (with_reducible (show Hold ..); first | refine Qh rfl ?_ | (refine s_cond rfl ⟨_, rfl, fun hb => ?_, fun hb => ?_⟩ <;> (have hc := hb; try simp only [go_sem] at hc)) | refine s_ret rfl ?_) | (with_reducible (show callA ..); first | (refine call_n (s) ?_ ?_ ?_ ?_; (focus (simp only [go_sem, *]; done)); (focus (first | (simp; done) | (simp [go_sem]; done))); (focus (first | (simp; done) | (simp [go_sem]; done))); simp only [go_sem, *])) | ((with_reducible refine Qb ?_ ?_); focus kernel_rfl) | ((with_reducible refine And.intro ?_ ?_); focus omega) | (refine contA_of hK ?_; clear hK K'; simp only [go_sem, *]) | (simp only [thenA, inBlockA, go_sem, *]))
 all_goals first | contradiction | skip
 clear s he f
 refine s_loop rfl (fun zn zN zenv zAs => ∃ (i : Nat) (cur : Option (Value × AV)) (rem : List House), zn = ((housesOf p).length) - i ∧ i ≤ ((housesOf p).length) ∧ (WaP (housesOf p) rem (mv p c) h i) ∧ zN = 34 ∧ zenv = [(5, .ptr 0 0), (6, .ptr 1 0), (23, .ptr 2 0)] ∧ zAs = [.box [iV h.street, iV h.plate.number, iV h.plate.letter], .box [iV 0, iV 0, iV 0], .iter cur (rem.map House.key) (rem.map (MapV (mv p c)))]) ((housesOf p).length) ⟨[some 2, some 3, some 5], [], _, _, _, (by (simp only [Weak, go_sem, List.map_append, List.map_set, *] <;> (try simp (disch := omega) only [wrap_succ]) <;> (try simp) <;> (try omega))), 0, none, housesOf p, (by simp), (by simp), (by exact h0), rfl, rfl, rfl⟩ ?_; rintro _ _ _ _ ⟨i, cur, rem, rfl, hi, hP, rfl, rfl, rfl⟩
 clear h0
 refine s_seq rfl ?_
 refine s_next (o := 2) rfl rfl rfl rfl rfl rfl rfl cur (rem.map House.key) (rem.map (MapV (mv p c))) (by simp only [go_sem]) (by simp only [go_sem]) (show (24 : Nat) < 34 by decide) (show (25 : Nat) < 34 by decide) (fun hk0 _ => ?_) (fun r hr1 hr2 => ?_)
 ·obtain rfl : rem = [] := by simpa using hk0
  have e := hN (was_not (fun x hx => (hP.2.2 x hx).resolve_left (by simp)))
  subst e
  clear hP hR hN
  simp only [go_sem]
  repeat' (first | (with_reducible (show runOps ..); first | (refine Qr rfl ?_; try intro K' hK; try simp only [go_sem, *])) | (with_reducible (show Hold ..); first | refine Qh rfl ?_ | (refine s_cond rfl ⟨_, rfl, fun hb => ?_, fun hb => ?_⟩ <;> (have hc := hb; try simp only [go_sem] at hc)) | refine s_ret rfl ?_) | ((with_reducible refine Qb ?_ ?_); focus kernel_rfl) | ((with_reducible refine And.intro ?_ ?_); focus omega) | (refine contA_of hK ?_; clear hK K'; simp only [go_sem, *]) | (simp only [thenA, inBlockA, go_sem, *]))
  refine ⟨[zeroH.enc, iV 3], [], [], ⟨(by simp only [resOne, go_sem, zeroH]), rfl, trivial⟩, ?_⟩; simp only [go_sem, *]
 ·obtain ⟨hr, hrk, hrx⟩ : ∃ hr : r < rem.length, (rem.map House.key)[r] = (rem[r]).key ∧ (rem.map (MapV (mv p c)))[r] = .list ((mv p c rem[r]).map House.enc) := ⟨by simpa using hr1, by simp, by simp [MapV]⟩
  rw [hrk, hrx, ← map_eraseIdx', ← map_eraseIdx']
  obtain ⟨hlen0, hsub, hnot⟩ := hP
  have hq : (rem[r] :: rem.eraseIdx r).Perm rem := (erase_perm rem r hr).symm
  have hel : (rem.eraseIdx r).length = rem.length - 1 := List.length_eraseIdx_of_lt hr
  clear hrk hrx
  generalize rem.eraseIdx r = rem' at *
  generalize rem[r] = x at *
  have hx := hsub x (hq.mem_iff.1 (by simp))
  have sc := sp_Contains_place (mv p c x) h (by have := hml x; omega)
  by_cases q : h ∈ mv p c x
  ·have e := hR x (hwu x hx q)
   rw [decide_eq_true q] at sc
   subst e
   clear hR hN q hsub hnot hq
   simp only [go_sem]
   repeat' (first | (with_reducible (show runOps ..); first | (refine Qr rfl ?_; try intro K' hK; try simp only [go_sem, *])) | (with_reducible (show Hold ..); first | refine Qh rfl ?_ | (refine s_cond rfl ⟨_, rfl, fun hb => ?_, fun hb => ?_⟩ <;> (have hc := hb; try simp only [go_sem] at hc)) | refine s_ret rfl ?_) | (with_reducible (show callA ..); first | (refine call_s (sc) ?_ ?_; (focus (simp only [go_sem, *]; done)); simp only [go_sem, *])) | ((with_reducible refine Qb ?_ ?_); focus kernel_rfl) | ((with_reducible refine And.intro ?_ ?_); focus omega) | (refine contA_of hK ?_; clear hK K'; simp only [go_sem, *]) | (simp only [thenA, inBlockA, go_sem, *]))
   all_goals first | contradiction | skip
   refine ⟨[x.enc, iV 0], [], [], ⟨(by simp only [resOne, go_sem]), rfl, trivial⟩, ?_⟩; simp only [go_sem, *]
  ·rw [decide_eq_false q] at sc
   have hP2 : WaP (housesOf p) rem' (mv p c) h (i + 1) := ⟨by omega, fun z hz => hsub z (hq.mem_iff.1 (by simp [hz])), fun z hz => (hnot z hz).elim (fun hz => by
    rcases List.mem_cons.1 (hq.mem_iff.2 hz) with rfl | hz
    ·exact .inr q
    ·exact .inl hz) .inr⟩
   clear hR hN q hsub hnot hq
   simp only [go_sem]
   repeat' (first | (with_reducible (show runOps ..); first | (refine Qr rfl ?_; try intro K' hK; try simp only [go_sem, *])) | (with_reducible (show Hold ..); first | refine Qh rfl ?_ | (refine s_cond rfl ⟨_, rfl, fun hb => ?_, fun hb => ?_⟩ <;> (have hc := hb; try simp only [go_sem] at hc)) | refine s_ret rfl ?_) | (with_reducible (show callA ..); first | (refine call_s (sc) ?_ ?_; (focus (simp only [go_sem, *]; done)); simp only [go_sem, *])) | ((with_reducible refine Qb ?_ ?_); focus kernel_rfl) | ((with_reducible refine And.intro ?_ ?_); focus omega) | (refine contA_of hK ?_; clear hK K'; simp only [go_sem, *]) | (simp only [thenA, inBlockA, go_sem, *]))
   all_goals first | contradiction | skip
   refine ⟨_, (by omega), [some 0, some 1, some 2], [], _, _, _, (by (simp only [Weak, go_sem, List.map_append, List.map_set, *] <;> (try simp (disch := omega) only [wrap_succ]) <;> (try simp) <;> (try omega))), i + 1, (some (x.key, .list ((mv p c x).map House.enc))), rem', rfl, (by omega), (by exact hP2), rfl, rfl, rfl⟩
theorem sp_Was (p : Plan) (c : Change) (h : House) (hp : p.length ≤ 4294967296) :
  Spec Tryz.prog 48 [encPlan p, c.enc, h.enc] [] (.tup [(wasH p c h).enc, iV (wasErr p c h)]) [] := by
 rcases @was_case p c h with ⟨e, h1, h2⟩ | ⟨e, m, h1, h2⟩ | ⟨e, h1, h2⟩
 ·rw [h1, h2]
  have s := (sp_made p c hp).1 e
  have q' : (errOf p c != 0) = true := by simpa using e
  clear e h1 h2
  generalize errOf p c = E0 at *
  refine spec_body Tryz.func48 rfl (fun E hE => ?_); simp only [go_sem, Tryz.ntmps48]
  repeat' (first | (with_reducible (show runOps ..); first | (refine Qr rfl ?_; try intro K' hK; try simp only [go_sem, *])) | (with_reducible (show Hold ..); first | refine Qh rfl ?_ | (refine s_cond rfl ⟨_, rfl, fun hb => ?_, fun hb => ?_⟩ <;> (have hc := hb; try simp only [go_sem] at hc)) | refine s_ret rfl ?_) | (with_reducible (show callA ..); first | (refine call_s (s) ?_ ?_; (focus (simp only [go_sem, *]; done)); simp only [go_sem, *])) | ((with_reducible refine Qb ?_ ?_); focus kernel_rfl) | ((with_reducible refine And.intro ?_ ?_); focus omega) | (refine contA_of hK ?_; clear hK K'; simp only [go_sem, *]) | (simp only [thenA, inBlockA, go_sem, *]))
  all_goals first | contradiction | skip
  refine ⟨[zeroH.enc, iV E0], [], [], ⟨(by simp only [resOne, go_sem, zeroH]), rfl, trivial⟩, ?_⟩; simp only [go_sem, *]
 ·obtain ⟨v, f⟩ := err_zero e
  rw [h1, h2]; exact sp_Was_go p c h v f e _ (fun x hx => by rw [m] at hx; cases hx) (fun _ => rfl)
 ·obtain ⟨v, f⟩ := err_zero e
  rw [h1]; exact sp_Was_go p c h v f e _ (fun x hx => by rw [h2] at hx; cases hx; rfl) (fun hx => by rw [h2] at hx; cases hx)
end Go.Abs

namespace Go.Abs
open Go Go.Proofs
set_option maxRecDepth 10000
set_option maxHeartbeats 4000000
theorem wide_no {p : Plan} (h : wideB p = false) : p.length ≤ 20 ∧ ∀ l, l ∈ p → l.length ≤ 20 := by
 unfold wideB wideL at h
 rw [Bool.or_eq_false_iff, List.any_eq_false] at h
 refine ⟨by simpa using h.1, fun l hl => ?_⟩
 have := h.2 l hl
 simpa using this
def aftX (p : Plan) (c : Change) : Plan := if errOf p c = 0 then afterOf p c else []
theorem aftX_small (p : Plan) (c : Change) : (aftX p c).length ≤ 3 ∧ ∀ l, l ∈ aftX p c → l.length ≤ 8 := by
 unfold aftX
 split
 ·rename_i e
  obtain ⟨v, f⟩ := err_zero e
  have w := valid_after v f
  exact ⟨w.len, fun l hl => (w.rows l hl).len⟩
 ·exact ⟨by simp, fun l hl => by cases hl⟩
end Go.Abs

namespace Go.Abs
open Go Go.Proofs
set_option maxRecDepth 10000
set_option maxHeartbeats 4000000
structure Asked (l : List House) : Prop where
 len : l.length ≤ 1000
 wf : ∀ x, x ∈ l → x.Wf
theorem sp_StreetMoves (p : Plan) (c : Change) (h0 : House) (nums : List Int) (hb : PlanB 1048576 p) (hw : h0.Wf) (h : nums.length ≤ 1048576) : Spec Tryz.prog 10 [encPlan p, c.enc, h0.enc, encInts nums] [] (bV true) [] := by
 have sw := sp_walking
 have s0 := sp_wide p (by have := hb.len; omega) (wideB p) rfl
 by_cases hwd : wideB p = true
 ·rw [hwd] at s0
  clear hwd
  refine spec_body Tryz.func10 rfl (fun E hE => ?_); simp only [go_sem, Tryz.ntmps10]
  repeat' (first | (with_reducible (show runOps ..); first | (refine Qr rfl ?_; try intro K' hK; try simp only [go_sem, *]) | (refine Qi rfl rfl rfl rfl (fun hb K' hK => ?_) (fun hb => ?_) <;> (have hc := hb; try simp only [go_sem] at hc; simp only [go_sem, *]))) | (with_reducible (show Hold ..); first | refine Qh rfl ?_ | refine s_draw rfl Tryz.mixed (by kernel_rfl) ?_ | (refine s_cond rfl ⟨_, rfl, fun hb => ?_, fun hb => ?_⟩ <;> (have hc := hb; try simp only [go_sem] at hc)) | refine s_ret rfl ?_) | (with_reducible (show callA ..); first | ((first | refine call_s (s0) ?_ ?_ | refine call_s (sw) ?_ ?_); (focus (simp only [go_sem, *]; done)); simp only [go_sem, *])) | ((with_reducible refine Qb ?_ ?_); focus kernel_rfl) | ((with_reducible refine And.intro ?_ ?_); focus omega) | (refine contA_of hK ?_; clear hK K'; simp only [go_sem, *]) | (simp only [thenA, inBlockA, go_sem, *]))
  all_goals first | contradiction | skip
  (refine ⟨[_], [], [], ⟨rfl, trivial⟩, ?_⟩; simp only [go_sem, *])
 have hwd : wideB p = false := by simpa using hwd
 rw [hwd] at s0
 obtain ⟨q1, q2⟩ := wide_no hwd
 have q3 : ∀ x, x ∈ housesOf p → x.Wf := hb.house (by omega)
 clear hwd hb
 have s1 := sp_NewDice nums
 have s2 := sp_PlanOf (newDice nums) 8 (show nums.length ≤ 4294967296 by omega) (by omega)
 have v := planOf_ok (d := newDice nums) (houses := 8) (by omega)
 have hl : (planOf (newDice nums) 8).2.list.length ≤ 4294967296 := by rw [planOf_list]; show nums.length ≤ _; omega
 generalize planOf (newDice nums) 8 = P at *
 obtain ⟨m, d1⟩ := P
 simp only at s2 v hl
 have s3 := sp_ChangeOf d1 m hl v
 generalize changeOf d1 m = C at *
 obtain ⟨c1, d2⟩ := C
 simp only at s3
 have hm1 : m.length ≤ 20 ∧ (∀ l, l ∈ m → l.length ≤ 20) ∧ ∀ x, x ∈ housesOf m → x.Wf := ⟨by have := v.len; omega, fun l hl => by have := (v.rows l hl).len; omega, v.wf⟩
 obtain ⟨PS, hPS⟩ : ∃ PS : List Plan, PS = [p, m, m] := ⟨_, rfl⟩
 obtain ⟨CS, hCS⟩ : ∃ CS : List Change, CS = [c, c1, c] := ⟨_, rfl⟩
 have hPl : PS.length = 3 := by rw [hPS]; rfl
 have hCl : CS.length = 3 := by rw [hCS]; rfl
 have hPa : ∀ x, x ∈ PS → x.length ≤ 20 ∧ (∀ l, l ∈ x → l.length ≤ 20) ∧ ∀ z, z ∈ housesOf x → z.Wf := fun x hx => by
  rw [hPS] at hx
  simp only [List.mem_cons, List.not_mem_nil, or_false] at hx
  rcases hx with rfl | rfl | rfl
  ·exact ⟨q1, q2, q3⟩
  ·exact hm1
  ·exact hm1
 clear q1 q2 q3 hm1 h hl v
 refine spec_body Tryz.func10 rfl (fun E hE => ?_); simp only [go_sem, Tryz.ntmps10]
 repeat' (first | (with_reducible (show runOps ..); first | (refine Qr rfl ?_; try intro K' hK; try simp only [go_sem, *]) | (refine Qi rfl rfl rfl rfl (fun hb K' hK => ?_) (fun hb => ?_) <;> (have hc := hb; try simp only [go_sem] at hc; simp only [go_sem, *]))) | (with_reducible (show Hold ..); first | refine Qh rfl ?_ | refine s_draw rfl Tryz.mixed (by kernel_rfl) ?_ | (refine s_cond rfl ⟨_, rfl, fun hb => ?_, fun hb => ?_⟩ <;> (have hc := hb; try simp only [go_sem] at hc)) | refine s_ret rfl ?_) | (with_reducible (show callA ..); first | (refine call_s (s0) ?_ ?_; (focus (simp only [go_sem, *]; done)); simp only [go_sem, *]) | (refine call_n (s1) ?_ ?_ ?_ ?_; (focus (simp only [go_sem, *]; done)); (focus (first | (simp; done) | (simp [go_sem]; done))); (focus (first | (simp; done) | (simp [go_sem]; done))); simp only [go_sem, *]) | (refine call_of [3] [] (s2) (by simp) ?_ ?_ (by simp) (.inl rfl) ?_ ?_ ?_; (focus (simp only [go_sem, *]; done)); (focus (simp only [go_sem, *]; done)); (focus (first | (simp; done) | (simp [go_sem]; done))); (focus (first | (simp; done) | (simp [go_sem]; done))); simp only [go_sem, *]) | (refine call_of [3] [] (s3) (by simp) ?_ ?_ (by simp) (.inl rfl) ?_ ?_ ?_; (focus (simp only [go_sem, *]; done)); (focus (simp only [go_sem, *]; done)); (focus (first | (simp; done) | (simp [go_sem]; done))); (focus (first | (simp; done) | (simp [go_sem]; done))); simp only [go_sem, *])) | ((with_reducible refine Qb ?_ ?_); focus kernel_rfl) | ((with_reducible refine And.intro ?_ ?_); focus omega) | (refine contA_of hK ?_; clear hK K'; simp only [go_sem, *]) | (simp only [thenA, inBlockA, go_sem, *]))
 all_goals first | contradiction | skip
 clear s0 s1 s2 s3
 refine s_loop rfl (fun zn zN zenv zAs => ∃ (i : Nat), zn = (3) - i ∧ i ≤ (3) ∧ (NoP i) ∧ zN = 172 ∧ zenv = [(13, iV i), (12, .list (CS.map Change.enc)), (11, .list (PS.map encPlan)), (6, .ptr 0 0)] ∧ zAs = [.box [iV h0.street, iV h0.plate.number, iV h0.plate.letter]]) (3) ⟨[some 2], [5, 6], _, _, _, (by (simp only [Weak, go_sem, List.map_append, List.map_set, *] <;> (try simp (disch := omega) only [wrap_succ]) <;> (try simp) <;> (try omega))), 0, (by simp), (by simp), (by trivial), rfl, rfl, rfl⟩ ?_; rintro _ _ _ _ ⟨i, rfl, hi, hP, rfl, rfl, rfl⟩
 clear hPS hCS
 by_cases hi : i < 3
 ·have hi3 : (i : Int) < 3 := by omega
  obtain ⟨q1, q2, q3⟩ := hPa _ (getD_mem (l := PS) (i := i) (by omega))
  obtain ⟨x1, x2⟩ := aftX_small (PS.getD i default) (CS.getD i default)
  have sB := sp_rAfter (PS.getD i default) (CS.getD i default) (by omega)
  change Spec _ _ _ _ (.tup [encPlan (aftX _ _), _]) _ at sB
  have sU := sp_DupPlan (PS.getD i default) (by omega) (fun l hl => by have := q2 l hl; omega)
  have sE2 := sp_EqPlans (PS.getD i default) (PS.getD i default) (by omega) (fun l hl => by have := q2 l hl; omega)
  have n1 : (housesOf (PS.getD i default)).length ≤ 400 := Nat.le_trans (houses_le q2) (by omega)
  have n2 : (housesOf (aftX (PS.getD i default) (CS.getD i default))).length ≤ 24 := Nat.le_trans (houses_le x2) (by omega)
  have x3 : ∀ z, z ∈ housesOf (aftX (PS.getD i default) (CS.getD i default)) → z.Wf := by
   unfold aftX
   split
   ·rename_i e
    obtain ⟨v, f⟩ := err_zero e
    exact (valid_after v f).wf
   ·intro z hz; cases hz
  have sO1 := sp_HousesOf (PS.getD i default) (by omega) (fun l hl => by have := q2 l hl; omega) (by omega)
  have sO2 := sp_HousesOf (aftX (PS.getD i default) (CS.getD i default)) (by omega) (fun l hl => by have := x2 l hl; omega) (by omega)
  have hA : Asked (housesOf (PS.getD i default) ++ housesOf (aftX (PS.getD i default) (CS.getD i default)) ++ [h0]) := ⟨by simp only [List.length_append, List.length_singleton]; omega, fun x hx => by
   rcases List.mem_append.1 hx with hx | hx
   ·rcases List.mem_append.1 hx with hx | hx
    ·exact q3 x hx
    ·exact x3 x hx
   ·rw [List.mem_singleton.1 hx]; exact hw⟩
  have sM := fun z hz => sp_Becomes (PS.getD i default) (CS.getD i default) z (by omega) hz
  have sN := fun z => sp_rBecomes (PS.getD i default) (CS.getD i default) z (by omega)
  have sV := fun z => sp_Was (PS.getD i default) (CS.getD i default) z (by omega)
  have sW := fun z => sp_rWas (PS.getD i default) (CS.getD i default) z (by omega)
  have bl : ∀ z, (becomesOf (PS.getD i default) (CS.getD i default) z).length ≤ 4294967296 := fun z => by
   unfold becomesOf
   split
   ·exact Nat.le_trans (nodup_len (strict_sortH _).nodup (fun _ hx => mem_sortH.1 hx)) (Nat.le_trans (mv_len_all _ _ z) (by omega))
   ·simp
  simp only [decide_true] at sE2
  clear q1 q2 q3 x1 x2 x3 hPa
  generalize becomesOf (PS.getD i default) (CS.getD i default) = B at *
  generalize becomesErr (PS.getD i default) (CS.getD i default) = BE at *
  generalize wasH (PS.getD i default) (CS.getD i default) = WH at *
  generalize wasErr (PS.getD i default) (CS.getD i default) = WE at *
  generalize aftX (PS.getD i default) (CS.getD i default) = X at *
  generalize housesOf (PS.getD i default) = H1 at *
  generalize housesOf X = H2 at *
  repeat' (first | (with_reducible (show runOps ..); first | (refine Qr rfl ?_; try intro K' hK; try simp only [go_sem, *]) | (refine Qi rfl rfl rfl rfl (fun hb K' hK => ?_) (fun hb => ?_) <;> (have hc := hb; try simp only [go_sem] at hc; simp only [go_sem, *]))) | (with_reducible (show Hold ..); first | refine Qh rfl ?_ | refine s_draw rfl Tryz.mixed (by kernel_rfl) ?_ | (refine s_cond rfl ⟨_, rfl, fun hb => ?_, fun hb => ?_⟩ <;> (have hc := hb; try simp only [go_sem] at hc)) | refine s_ret rfl ?_) | (with_reducible (show (∀ _ : AV, _ → _) ∧ _); refine And.intro ?_ ?_; (focus (intro y hy; first | (obtain ⟨z, _, rfl⟩ := List.mem_map.1 (hy); simp [go_sem]; done) | (obtain ⟨z, _, rfl⟩ := List.mem_map.1 (List.mem_of_mem_take hy); simp [go_sem]; done) | (obtain ⟨z, _, rfl⟩ := List.mem_map.1 (List.mem_of_mem_drop hy); simp [go_sem]; done) | (obtain ⟨z, _, rfl⟩ := List.mem_map.1 (List.mem_of_mem_drop (List.mem_of_mem_take hy)); simp [go_sem]; done)))) | (with_reducible (show callA ..); first | ((first | refine call_s (sU) ?_ ?_ | refine call_s (sB) ?_ ?_); (focus (simp only [go_sem, *]; done)); simp only [go_sem, *]) | (refine call_n (sO1) ?_ ?_ ?_ ?_; (focus (simp only [go_sem, *]; done)); (focus (first | (simp; done) | (simp [go_sem]; done))); (focus (first | (simp; done) | (simp [go_sem]; done))); simp only [go_sem, *]) | (refine call_n (sO2) ?_ ?_ ?_ ?_; (focus (simp only [go_sem, *]; done)); (focus (first | (simp; done) | (simp [go_sem]; done))); (focus (first | (simp; done) | (simp [go_sem]; done))); simp only [go_sem, *])) | ((with_reducible refine Qb ?_ ?_); focus kernel_rfl) | ((with_reducible refine And.intro ?_ ?_); focus omega) | (refine contA_of hK ?_; clear hK K'; simp only [go_sem, *]) | (simp only [thenA, inBlockA, go_sem, *]))
  all_goals first | contradiction | skip
  clear sU sB sO1 sO2
  obtain ⟨L, hL⟩ : ∃ L, L = H1 ++ H2 ++ [h0] := ⟨_, rfl⟩
  rw [← hL] at hA
  have ht : ∀ a : AV, List.take (H1.length + H2.length + 1) (List.map House.enc H1 ++ List.map House.enc H2 ++ [a]) = List.map House.enc H1 ++ List.map House.enc H2 ++ [a] := fun a => List.take_of_length_le (by simp only [List.length_append, List.length_map, List.length_singleton]; omega)
  refine s_loop rfl (fun zn zN zenv zAs => ∃ (k : Nat), zn = (L.length) - k ∧ k ≤ (L.length) ∧ (NoP k) ∧ zN = 172 ∧ zenv = [(18, iV k), (17, encHouses L), (14, .ptr 1 0), (13, iV i), (12, .list (CS.map Change.enc)), (11, .list (PS.map encPlan)), (6, .ptr 0 0)] ∧ zAs = [.box [iV h0.street, iV h0.plate.number, iV h0.plate.letter], pBox (PS.getD i default)]) (L.length) ⟨[some 0, some 1], [7], _, _, _, (by (simp only [Weak, go_sem, List.map_append, List.map_set, *] <;> (try simp (disch := omega) only [wrap_succ]) <;> (try simp) <;> (try omega))), 0, (by simp), (by simp), (by trivial), rfl, rfl, rfl⟩ ?_; rintro _ _ _ _ ⟨k, rfl, hk, hK2, rfl, rfl, rfl⟩
  clear hL n1 n2 ht
  have hll := hA.len
  by_cases hk : k < L.length
  ·have hk3 : (k : Int) < L.length := by omega
   have sM1 := sM _ (hA.wf _ (getD_mem hk))
   have sN1 := sN (L.getD k default)
   have sV1 := sV (L.getD k default)
   have sW1 := sW (L.getD k default)
   have sQ := sp_EqPlaces (B (L.getD k default)) (B (L.getD k default)) (bl _)
   simp only [decide_true] at sQ
   have ee : (BE (L.getD k default) != BE (L.getD k default)) = false := by simp
   have ef : (WE (L.getD k default) != WE (L.getD k default)) = false := by simp
   clear sM sN sV sW bl hA
   generalize B (L.getD k default) = b at *
   generalize BE (L.getD k default) = be at *
   generalize WH (L.getD k default) = w at *
   generalize WE (L.getD k default) = we at *
   repeat' (first | (with_reducible (show runOps ..); first | (refine Qr rfl ?_; try intro K' hK; try simp only [go_sem, *]) | (refine Qi rfl rfl rfl rfl (fun hb K' hK => ?_) (fun hb => ?_) <;> (have hc := hb; try simp only [go_sem] at hc; simp only [go_sem, *]))) | (with_reducible (show Hold ..); first | refine Qh rfl ?_ | refine s_draw rfl Tryz.mixed (by kernel_rfl) ?_ | (refine s_cond rfl ⟨_, rfl, fun hb => ?_, fun hb => ?_⟩ <;> (have hc := hb; try simp only [go_sem] at hc)) | refine s_ret rfl ?_) | (with_reducible (show callA ..); first | ((first | refine call_s (sM1) ?_ ?_ | refine call_s (sN1) ?_ ?_ | refine call_s (sV1) ?_ ?_ | refine call_s (sW1) ?_ ?_ | refine call_s (sQ) ?_ ?_ | refine call_s (sE2) ?_ ?_); (focus (simp only [go_sem, *]; done)); simp only [go_sem, *])) | ((with_reducible refine Qb ?_ ?_); focus kernel_rfl) | ((with_reducible refine And.intro ?_ ?_); focus omega) | (refine contA_of hK ?_; clear hK K'; simp only [go_sem, *]) | (simp only [thenA, inBlockA, go_sem, *]))
   all_goals first | contradiction | skip
   refine ⟨_, (by omega), [some 0, some 1], [], _, _, _, (by (simp only [Weak, go_sem, List.map_append, List.map_set, *] <;> (try simp (disch := omega) only [wrap_succ]) <;> (try simp) <;> (try omega))), k + 1, rfl, (by omega), (by trivial), rfl, rfl, rfl⟩
  ·have hk3 : ¬ (k : Int) < L.length := by omega
   repeat' (first | (with_reducible (show runOps ..); first | (refine Qr rfl ?_; try intro K' hK; try simp only [go_sem, *]) | (refine Qi rfl rfl rfl rfl (fun hb K' hK => ?_) (fun hb => ?_) <;> (have hc := hb; try simp only [go_sem] at hc; simp only [go_sem, *]))) | (with_reducible (show Hold ..); first | refine Qh rfl ?_ | refine s_draw rfl Tryz.mixed (by kernel_rfl) ?_ | (refine s_cond rfl ⟨_, rfl, fun hb => ?_, fun hb => ?_⟩ <;> (have hc := hb; try simp only [go_sem] at hc)) | refine s_ret rfl ?_) | ((with_reducible refine Qb ?_ ?_); focus kernel_rfl) | ((with_reducible refine And.intro ?_ ?_); focus omega) | (refine contA_of hK ?_; clear hK K'; simp only [go_sem, *]) | (simp only [thenA, inBlockA, go_sem, *]))
   all_goals first | contradiction | skip
   refine ⟨_, (by omega), [some 0], [], _, _, _, (by (simp only [Weak, go_sem, List.map_append, List.map_set, *] <;> (try simp (disch := omega) only [wrap_succ]) <;> (try simp) <;> (try omega))), i + 1, rfl, (by omega), (by trivial), rfl, rfl, rfl⟩
 ·have hi3 : ¬ (i : Int) < 3 := by omega
  repeat' (first | (with_reducible (show runOps ..); first | (refine Qr rfl ?_; try intro K' hK; try simp only [go_sem, *]) | (refine Qi rfl rfl rfl rfl (fun hb K' hK => ?_) (fun hb => ?_) <;> (have hc := hb; try simp only [go_sem] at hc; simp only [go_sem, *]))) | (with_reducible (show Hold ..); first | refine Qh rfl ?_ | refine s_draw rfl Tryz.mixed (by kernel_rfl) ?_ | (refine s_cond rfl ⟨_, rfl, fun hb => ?_, fun hb => ?_⟩ <;> (have hc := hb; try simp only [go_sem] at hc)) | refine s_ret rfl ?_) | (with_reducible (show callA ..); first | (refine call_s (sw) ?_ ?_; (focus (simp only [go_sem, *]; done)); simp only [go_sem, *])) | ((with_reducible refine Qb ?_ ?_); focus kernel_rfl) | ((with_reducible refine And.intro ?_ ?_); focus omega) | (refine contA_of hK ?_; clear hK K'; simp only [go_sem, *]) | (simp only [thenA, inBlockA, go_sem, *]))
  all_goals first | contradiction | skip
  (refine ⟨[_], [], [], ⟨rfl, trivial⟩, ?_⟩; simp only [go_sem, *])
end Go.Abs

