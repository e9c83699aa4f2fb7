/-
  WHAT THE PROOF STANDS ON, PART 6: contracts of the program's functions and the logic that they are proved in. No condition.
-/
import Derived.Test.YtmhleaopjcfjnaaGreatQ5
set_option linter.unusedVariables false
set_option linter.unusedSimpArgs false
set_option linter.unusedSectionVars false
namespace Go.Abs
open Go Go.Proofs
set_option maxRecDepth 10000
set_option maxHeartbeats 4000000
theorem idxP_neg (l : List Plate) (x : Plate) : idxP l x < 0 ↔ x ∉ l := by
  unfold idxP
  split
  · rename_i h; simp [h]
  · rename_i h; simp [h]
theorem idx_yes {l : List Plate} {x : Plate} (h : x ∈ l) : ¬ idxP l x < 0 := fun e => (idxP_neg l x).1 e h
theorem idx_no {l : List Plate} {x : Plate} (h : x ∉ l) : idxP l x < 0 := (idxP_neg l x).2 h
theorem fits_k4 (p : Plan) (c : Change) (v : Valid p) (hs : 0 ≤ c.street ∧ c.street < p.length) (ho : 0 ≤ c.other ∧ c.other < p.length) (k : c.kind = 4) (R : Int) (hR : fitsE p c = R) : Spec Tryz.prog 133 [encPlan p, c.enc] [] (iV R) [] := by
  have hl := (v.row c.street).len
  have hol := (v.row c.other).len
  have hob := base_le (v.row c.other)
  have hok := (v.row c.street).ok
  have sb := sp_base (rowAt p c.other) (by omega) (v.row c.other).ok
  have hs' : c.street.toNat < p.length := by omega
  have ho' : c.other.toNat < p.length := by omega
  obtain ⟨hs0, hs1⟩ := hs
  obtain ⟨ho0, ho1⟩ := ho
  have hw : IntKind.i64.wrap (((rowAt p c.street).length : Int) + ((rowAt p c.other).length : Int)) = ((rowAt p c.street).length : Int) + ((rowAt p c.other).length : Int) := wrap_i64 (by omega) (by omega)
  rw [fitsE_join k] at hR
  have k' : (c.kind == 4) = true := by rw [beq_iff_eq]; exact k
  clear k
  by_cases q : 8 < (rowAt p c.street).length + (rowAt p c.other).length
  · rw [if_pos q] at hR
    have q' : ((rowAt p c.street).length : Int) + ((rowAt p c.other).length : Int) > 8 := by omega
    subst hR
    clear hob hok
    refine spec_body Tryz.func133 rfl (fun E hE => ?_); simp only [go_sem, Tryz.ntmps133]
    repeat' (first | (with_reducible (show runOps ..); first | (refine Qr rfl ?_; try intro K' hK; try simp only [go_sem, *]) | (refine Qi rfl rfl rfl rfl (fun hb K' hK => ?_) (fun hb => ?_) <;> (have hc := hb; try simp only [go_sem] at hc; simp only [go_sem, *]))) | (with_reducible (show Hold ..); first | refine Qh rfl ?_ | refine s_draw rfl Tryz.mixed (by kernel_rfl) ?_ | (refine s_cond rfl ⟨_, rfl, fun hb => ?_, fun hb => ?_⟩ <;> (have hc := hb; try simp only [go_sem] at hc)) | refine s_ret rfl ?_) | ((with_reducible refine Qb ?_ ?_); focus kernel_rfl) | ((with_reducible refine And.intro ?_ ?_); focus omega) | (refine contA_of hK ?_; clear hK K'; simp only [go_sem, *]) | (simp only [thenA, inBlockA, go_sem, *]))
    all_goals first | contradiction | omega | skip
    (refine ⟨[_], [], [], ⟨rfl, trivial⟩, ?_⟩; simp only [go_sem, *])
  · rw [if_neg q] at hR
    have q' : ¬ ((rowAt p c.street).length : Int) + ((rowAt p c.other).length : Int) > 8 := by omega
    have hR0 : (if ((rowAt p c.street).drop 0).any (fun x => decide (40 < x.number + base (rowAt p c.other))) = true then (1 : Int) else 0) = R := hR
    clear hR q
    generalize base (rowAt p c.other) = bb at *
    refine spec_body Tryz.func133 rfl (fun E hE => ?_); simp only [go_sem, Tryz.ntmps133]
    repeat' (first | (with_reducible (show runOps ..); first | (refine Qr rfl ?_; try intro K' hK; try simp only [go_sem, *]) | (refine Qi rfl rfl rfl rfl (fun hb K' hK => ?_) (fun hb => ?_) <;> (have hc := hb; try simp only [go_sem] at hc; simp only [go_sem, *]))) | (with_reducible (show Hold ..); first | refine Qh rfl ?_ | refine s_draw rfl Tryz.mixed (by kernel_rfl) ?_ | (refine s_cond rfl ⟨_, rfl, fun hb => ?_, fun hb => ?_⟩ <;> (have hc := hb; try simp only [go_sem] at hc)) | refine s_ret rfl ?_) | ((with_reducible refine Qb ?_ ?_); focus kernel_rfl) | ((with_reducible refine And.intro ?_ ?_); focus omega) | (refine contA_of hK ?_; clear hK K'; simp only [go_sem, *]) | (simp only [thenA, inBlockA, go_sem, *]))
    all_goals first | contradiction | omega | skip
    generalize hll : rowAt p c.street = l at *
    refine s_loop rfl (fun zn zN zenv zAs => ∃ (i : Nat), zn = (l.length) - i ∧ i ≤ (l.length) ∧ ((if (l.drop i).any (fun x => decide (40 < x.number + bb)) = true then (1 : Int) else 0) = R) ∧ zN = 97 ∧ zenv = [(7, iV i), (6, encStreet (rowAt p c.other)), (5, encStreet l)] ∧ zAs = []) (l.length) ⟨[], [], _, _, _, (by (simp only [Weak, go_sem, List.map_append, List.map_set, *] <;> (try simp (disch := omega) only [wrap_succ]) <;> (try simp) <;> (try omega))), 0, (by simp), (by simp), (by exact hR0), rfl, rfl, rfl⟩ ?_; rintro _ _ _ _ ⟨i, rfl, hi, hP, rfl, rfl, rfl⟩
    clear hR0
    by_cases hi2 : i < l.length
    · have hx := (ok_iff _).1 (hok _ (getD_mem hi2))
      rw [drop_cons hi2, List.any_cons] at hP
      have hwx : IntKind.i64.wrap ((l.getD i default).number + bb) = (l.getD i default).number + bb := wrap_i64 (by omega) (by omega)
      by_cases r : 40 < (l.getD i default).number + bb
      · have e : decide (40 < (l.getD i default).number + bb) = true := by simpa using r
        rw [e, Bool.true_or, if_pos rfl] at hP
        have r' : (l.getD i default).number + bb > 40 := r
        clear e r
        subst hP
        repeat' (first | (with_reducible (show runOps ..); first | (refine Qr rfl ?_; try intro K' hK; try simp only [go_sem, *]) | (refine Qi rfl rfl rfl rfl (fun hb K' hK => ?_) (fun hb => ?_) <;> (have hc := hb; try simp only [go_sem] at hc; simp only [go_sem, *]))) | (with_reducible (show Hold ..); first | refine Qh rfl ?_ | refine s_draw rfl Tryz.mixed (by kernel_rfl) ?_ | (refine s_cond rfl ⟨_, rfl, fun hb => ?_, fun hb => ?_⟩ <;> (have hc := hb; try simp only [go_sem] at hc)) | refine s_ret rfl ?_) | (with_reducible (show callA ..); first | (refine call_s (sb) ?_ ?_; (focus (simp only [go_sem, *]; done)); simp only [go_sem, *])) | ((with_reducible refine Qb ?_ ?_); focus kernel_rfl) | ((with_reducible refine And.intro ?_ ?_); focus omega) | (refine contA_of hK ?_; clear hK K'; simp only [go_sem, *]) | (simp only [thenA, inBlockA, go_sem, *]))
        all_goals first | contradiction | omega | skip
        (refine ⟨[_], [], [], ⟨rfl, trivial⟩, ?_⟩; simp only [go_sem, *])
      · have e : decide (40 < (l.getD i default).number + bb) = false := by simpa using r
        rw [e, Bool.false_or] at hP
        have r' : ¬ (l.getD i default).number + bb > 40 := r
        clear e r
        repeat' (first | (with_reducible (show runOps ..); first | (refine Qr rfl ?_; try intro K' hK; try simp only [go_sem, *]) | (refine Qi rfl rfl rfl rfl (fun hb K' hK => ?_) (fun hb => ?_) <;> (have hc := hb; try simp only [go_sem] at hc; simp only [go_sem, *]))) | (with_reducible (show Hold ..); first | refine Qh rfl ?_ | refine s_draw rfl Tryz.mixed (by kernel_rfl) ?_ | (refine s_cond rfl ⟨_, rfl, fun hb => ?_, fun hb => ?_⟩ <;> (have hc := hb; try simp only [go_sem] at hc)) | refine s_ret rfl ?_) | (with_reducible (show callA ..); first | (refine call_s (sb) ?_ ?_; (focus (simp only [go_sem, *]; done)); simp only [go_sem, *])) | ((with_reducible refine Qb ?_ ?_); focus kernel_rfl) | ((with_reducible refine And.intro ?_ ?_); focus omega) | (refine contA_of hK ?_; clear hK K'; simp only [go_sem, *]) | (simp only [thenA, inBlockA, go_sem, *]))
        all_goals first | contradiction | omega | skip
        refine ⟨_, (by omega), [], [], _, _, _, (by (simp only [Weak, go_sem, List.map_append, List.map_set, *] <;> (try simp (disch := omega) only [wrap_succ]) <;> (try simp) <;> (try omega))), i + 1, rfl, (by omega), (by exact hP), rfl, rfl, rfl⟩
    · rw [drop_end (by omega), List.any_nil, if_neg (by decide)] at hP
      subst hP
      repeat' (first | (with_reducible (show runOps ..); first | (refine Qr rfl ?_; try intro K' hK; try simp only [go_sem, *]) | (refine Qi rfl rfl rfl rfl (fun hb K' hK => ?_) (fun hb => ?_) <;> (have hc := hb; try simp only [go_sem] at hc; simp only [go_sem, *]))) | (with_reducible (show Hold ..); first | refine Qh rfl ?_ | refine s_draw rfl Tryz.mixed (by kernel_rfl) ?_ | (refine s_cond rfl ⟨_, rfl, fun hb => ?_, fun hb => ?_⟩ <;> (have hc := hb; try simp only [go_sem] at hc)) | refine s_ret rfl ?_) | ((with_reducible refine Qb ?_ ?_); focus kernel_rfl) | ((with_reducible refine And.intro ?_ ?_); focus omega) | (refine contA_of hK ?_; clear hK K'; simp only [go_sem, *]) | (simp only [thenA, inBlockA, go_sem, *]))
      (refine ⟨[_], [], [], ⟨rfl, trivial⟩, ?_⟩; simp only [go_sem, *])
theorem fits_k5 (p : Plan) (c : Change) (v : Valid p) (hs : 0 ≤ c.street ∧ c.street < p.length) (k : c.kind = 5) (R : Int) (hR : fitsE p c = R) : Spec Tryz.prog 133 [encPlan p, c.enc] [] (iV R) [] := by
  have hl := (v.row c.street).len
  have hs' : c.street.toNat < p.length := by omega
  obtain ⟨hs0, hs1⟩ := hs
  rw [fitsE_divide k] at hR
  have k' : (c.kind == 5) = true := by rw [beq_iff_eq]; exact k
  have k4 : (c.kind == 4) = false := by rw [beq_eq_false_iff_ne]; omega
  clear k
  have s1 := sp_index (rowAt p c.street) c.src (by omega)
  have s2 := sp_letter (rowAt p c.street) c.src.number (by omega)
  by_cases q : c.src ∈ rowAt p c.street
  · rw [if_neg (by simpa using q)] at hR
    have q' := idx_yes q
    clear q
    generalize idxP (rowAt p c.street) c.src = ix at *
    generalize letter (rowAt p c.street) c.src.number = lt at *
    by_cases r : (rowAt p c.street).length = 8
    · rw [if_pos (.inl r)] at hR
      have r' : (((rowAt p c.street).length : Int) == 8) = true := by rw [beq_iff_eq]; omega
      clear r
      subst hR
      refine spec_body Tryz.func133 rfl (fun E hE => ?_); simp only [go_sem, Tryz.ntmps133]
      repeat' (first | (with_reducible (show runOps ..); first | (refine Qr rfl ?_; try intro K' hK; try simp only [go_sem, *]) | (refine Qi rfl rfl rfl rfl (fun hb K' hK => ?_) (fun hb => ?_) <;> (have hc := hb; try simp only [go_sem] at hc; simp only [go_sem, *]))) | (with_reducible (show Hold ..); first | refine Qh rfl ?_ | refine s_draw rfl Tryz.mixed (by kernel_rfl) ?_ | (refine s_cond rfl ⟨_, rfl, fun hb => ?_, fun hb => ?_⟩ <;> (have hc := hb; try simp only [go_sem] at hc)) | refine s_ret rfl ?_) | (with_reducible (show callA ..); first | ((first | refine call_s (s1) ?_ ?_ | refine call_s (s2) ?_ ?_); (focus (simp only [go_sem, *]; done)); simp only [go_sem, *])) | ((with_reducible refine Qb ?_ ?_); focus kernel_rfl) | ((with_reducible refine And.intro ?_ ?_); focus omega) | (refine contA_of hK ?_; clear hK K'; simp only [go_sem, *]) | (simp only [thenA, inBlockA, go_sem, *]))
      all_goals first | contradiction | omega | skip
      (refine ⟨[_], [], [], ⟨rfl, trivial⟩, ?_⟩; simp only [go_sem, *])
    · have r' : (((rowAt p c.street).length : Int) == 8) = false := by rw [beq_eq_false_iff_ne]; omega
      by_cases t : lt = 0
      · rw [if_pos (.inr t)] at hR
        clear r
        subst t
        subst hR
        refine spec_body Tryz.func133 rfl (fun E hE => ?_); simp only [go_sem, Tryz.ntmps133]
        repeat' (first | (with_reducible (show runOps ..); first | (refine Qr rfl ?_; try intro K' hK; try simp only [go_sem, *]) | (refine Qi rfl rfl rfl rfl (fun hb K' hK => ?_) (fun hb => ?_) <;> (have hc := hb; try simp only [go_sem] at hc; simp only [go_sem, *]))) | (with_reducible (show Hold ..); first | refine Qh rfl ?_ | refine s_draw rfl Tryz.mixed (by kernel_rfl) ?_ | (refine s_cond rfl ⟨_, rfl, fun hb => ?_, fun hb => ?_⟩ <;> (have hc := hb; try simp only [go_sem] at hc)) | refine s_ret rfl ?_) | (with_reducible (show callA ..); first | ((first | refine call_s (s1) ?_ ?_ | refine call_s (s2) ?_ ?_); (focus (simp only [go_sem, *]; done)); simp only [go_sem, *])) | ((with_reducible refine Qb ?_ ?_); focus kernel_rfl) | ((with_reducible refine And.intro ?_ ?_); focus omega) | (refine contA_of hK ?_; clear hK K'; simp only [go_sem, *]) | (simp only [thenA, inBlockA, go_sem, *]))
        all_goals first | contradiction | omega | skip
        (refine ⟨[_], [], [], ⟨rfl, trivial⟩, ?_⟩; simp only [go_sem, *])
      · rw [if_neg (by rintro (h | h); exact r h; exact t h)] at hR
        have t' : (lt == 0) = false := by rw [beq_eq_false_iff_ne]; exact t
        clear r t
        subst hR
        refine spec_body Tryz.func133 rfl (fun E hE => ?_); simp only [go_sem, Tryz.ntmps133]
        repeat' (first | (with_reducible (show runOps ..); first | (refine Qr rfl ?_; try intro K' hK; try simp only [go_sem, *]) | (refine Qi rfl rfl rfl rfl (fun hb K' hK => ?_) (fun hb => ?_) <;> (have hc := hb; try simp only [go_sem] at hc; simp only [go_sem, *]))) | (with_reducible (show Hold ..); first | refine Qh rfl ?_ | refine s_draw rfl Tryz.mixed (by kernel_rfl) ?_ | (refine s_cond rfl ⟨_, rfl, fun hb => ?_, fun hb => ?_⟩ <;> (have hc := hb; try simp only [go_sem] at hc)) | refine s_ret rfl ?_) | (with_reducible (show callA ..); first | ((first | refine call_s (s1) ?_ ?_ | refine call_s (s2) ?_ ?_); (focus (simp only [go_sem, *]; done)); simp only [go_sem, *])) | ((with_reducible refine Qb ?_ ?_); focus kernel_rfl) | ((with_reducible refine And.intro ?_ ?_); focus omega) | (refine contA_of hK ?_; clear hK K'; simp only [go_sem, *]) | (simp only [thenA, inBlockA, go_sem, *]))
        all_goals first | contradiction | omega | skip
        (refine ⟨[_], [], [], ⟨rfl, trivial⟩, ?_⟩; simp only [go_sem, *])
  · rw [if_pos q] at hR
    have q' := idx_no q
    clear q
    generalize idxP (rowAt p c.street) c.src = ix at *
    subst hR
    refine spec_body Tryz.func133 rfl (fun E hE => ?_); simp only [go_sem, Tryz.ntmps133]
    repeat' (first | (with_reducible (show runOps ..); first | (refine Qr rfl ?_; try intro K' hK; try simp only [go_sem, *]) | (refine Qi rfl rfl rfl rfl (fun hb K' hK => ?_) (fun hb => ?_) <;> (have hc := hb; try simp only [go_sem] at hc; simp only [go_sem, *]))) | (with_reducible (show Hold ..); first | refine Qh rfl ?_ | refine s_draw rfl Tryz.mixed (by kernel_rfl) ?_ | (refine s_cond rfl ⟨_, rfl, fun hb => ?_, fun hb => ?_⟩ <;> (have hc := hb; try simp only [go_sem] at hc)) | refine s_ret rfl ?_) | (with_reducible (show callA ..); first | (refine call_s (s1) ?_ ?_; (focus (simp only [go_sem, *]; done)); simp only [go_sem, *])) | ((with_reducible refine Qb ?_ ?_); focus kernel_rfl) | ((with_reducible refine And.intro ?_ ?_); focus omega) | (refine contA_of hK ?_; clear hK K'; simp only [go_sem, *]) | (simp only [thenA, inBlockA, go_sem, *]))
    all_goals first | contradiction | omega | skip
    (refine ⟨[_], [], [], ⟨rfl, trivial⟩, ?_⟩; simp only [go_sem, *])
theorem fits_k6 (p : Plan) (c : Change) (v : Valid p) (hs : 0 ≤ c.street ∧ c.street < p.length) (k : c.kind = 6) (R : Int) (hR : fitsE p c = R) : Spec Tryz.prog 133 [encPlan p, c.enc] [] (iV R) [] := by
  have hl := (v.row c.street).len
  have hs' : c.street.toNat < p.length := by omega
  obtain ⟨hs0, hs1⟩ := hs
  rw [fitsE_fell k] at hR
  have k' : (c.kind == 6) = true := by rw [beq_iff_eq]; exact k
  have k4 : (c.kind == 4) = false := by rw [beq_eq_false_iff_ne]; omega
  have k5 : (c.kind == 5) = false := by rw [beq_eq_false_iff_ne]; omega
  clear k
  have s1 := sp_index (rowAt p c.street) c.src (by omega)
  by_cases q : c.src ∈ rowAt p c.street
  · rw [if_neg (by simpa using q)] at hR
    have q' := idx_yes q
    clear q
    generalize idxP (rowAt p c.street) c.src = ix at *
    subst hR
    refine spec_body Tryz.func133 rfl (fun E hE => ?_); simp only [go_sem, Tryz.ntmps133]
    repeat' (first | (with_reducible (show runOps ..); first | (refine Qr rfl ?_; try intro K' hK; try simp only [go_sem, *]) | (refine Qi rfl rfl rfl rfl (fun hb K' hK => ?_) (fun hb => ?_) <;> (have hc := hb; try simp only [go_sem] at hc; simp only [go_sem, *]))) | (with_reducible (show Hold ..); first | refine Qh rfl ?_ | refine s_draw rfl Tryz.mixed (by kernel_rfl) ?_ | (refine s_cond rfl ⟨_, rfl, fun hb => ?_, fun hb => ?_⟩ <;> (have hc := hb; try simp only [go_sem] at hc)) | refine s_ret rfl ?_) | (with_reducible (show callA ..); first | (refine call_s (s1) ?_ ?_; (focus (simp only [go_sem, *]; done)); simp only [go_sem, *])) | ((with_reducible refine Qb ?_ ?_); focus kernel_rfl) | ((with_reducible refine And.intro ?_ ?_); focus omega) | (refine contA_of hK ?_; clear hK K'; simp only [go_sem, *]) | (simp only [thenA, inBlockA, go_sem, *]))
    all_goals first | contradiction | omega | skip
    (refine ⟨[_], [], [], ⟨rfl, trivial⟩, ?_⟩; simp only [go_sem, *])
  · rw [if_pos q] at hR
    have q' := idx_no q
    clear q
    generalize idxP (rowAt p c.street) c.src = ix at *
    subst hR
    refine spec_body Tryz.func133 rfl (fun E hE => ?_); simp only [go_sem, Tryz.ntmps133]
    repeat' (first | (with_reducible (show runOps ..); first | (refine Qr rfl ?_; try intro K' hK; try simp only [go_sem, *]) | (refine Qi rfl rfl rfl rfl (fun hb K' hK => ?_) (fun hb => ?_) <;> (have hc := hb; try simp only [go_sem] at hc; simp only [go_sem, *]))) | (with_reducible (show Hold ..); first | refine Qh rfl ?_ | refine s_draw rfl Tryz.mixed (by kernel_rfl) ?_ | (refine s_cond rfl ⟨_, rfl, fun hb => ?_, fun hb => ?_⟩ <;> (have hc := hb; try simp only [go_sem] at hc)) | refine s_ret rfl ?_) | (with_reducible (show callA ..); first | (refine call_s (s1) ?_ ?_; (focus (simp only [go_sem, *]; done)); simp only [go_sem, *])) | ((with_reducible refine Qb ?_ ?_); focus kernel_rfl) | ((with_reducible refine And.intro ?_ ?_); focus omega) | (refine contA_of hK ?_; clear hK K'; simp only [go_sem, *]) | (simp only [thenA, inBlockA, go_sem, *]))
    all_goals first | contradiction | omega | skip
    (refine ⟨[_], [], [], ⟨rfl, trivial⟩, ?_⟩; simp only [go_sem, *])
theorem fits_k7 (p : Plan) (c : Change) (v : Valid p) (hs : 0 ≤ c.street ∧ c.street < p.length) (ho : 0 ≤ c.other ∧ c.other < p.length) (k : c.kind = 7) (R : Int) (hR : fitsE p c = R) : Spec Tryz.prog 133 [encPlan p, c.enc] [] (iV R) [] := by
  have hl := (v.row c.street).len
  have hs' : c.street.toNat < p.length := by omega
  have ho' : c.other.toNat < p.length := by omega
  obtain ⟨hs0, hs1⟩ := hs
  obtain ⟨ho0, ho1⟩ := ho
  rw [fitsE_court k] at hR
  have k' : (c.kind == 7) = true := by rw [beq_iff_eq]; exact k
  have k4 : (c.kind == 4) = false := by rw [beq_eq_false_iff_ne]; omega
  have k5 : (c.kind == 5) = false := by rw [beq_eq_false_iff_ne]; omega
  have k6 : (c.kind == 6) = false := by rw [beq_eq_false_iff_ne]; omega
  clear k
  have s1 := sp_index (rowAt p c.street) c.src (by omega)
  have s2 := sp_index (rowAt p c.street) c.dst (by omega)
  have s3 := sp_Before c.dst c.src
  by_cases q : c.src ∈ rowAt p c.street
  · have q' := idx_yes q
    by_cases r : c.dst ∈ rowAt p c.street
    · have r' := idx_yes r
      rw [if_neg (by rintro (h | h); exact h q; exact h r)] at hR
      clear q r
      generalize idxP (rowAt p c.street) c.src = ix at *
      generalize idxP (rowAt p c.street) c.dst = iy at *
      by_cases t : c.dst.lt c.src = true
      · rw [if_pos t] at hR
        rw [t] at s3
        clear t
        subst hR
        refine spec_body Tryz.func133 rfl (fun E hE => ?_); simp only [go_sem, Tryz.ntmps133]
        repeat' (first | (with_reducible (show runOps ..); first | (refine Qr rfl ?_; try intro K' hK; try simp only [go_sem, *]) | (refine Qi rfl rfl rfl rfl (fun hb K' hK => ?_) (fun hb => ?_) <;> (have hc := hb; try simp only [go_sem] at hc; simp only [go_sem, *]))) | (with_reducible (show Hold ..); first | refine Qh rfl ?_ | refine s_draw rfl Tryz.mixed (by kernel_rfl) ?_ | (refine s_cond rfl ⟨_, rfl, fun hb => ?_, fun hb => ?_⟩ <;> (have hc := hb; try simp only [go_sem] at hc)) | refine s_ret rfl ?_) | (with_reducible (show callA ..); first | ((first | refine call_s (s1) ?_ ?_ | refine call_s (s2) ?_ ?_ | refine call_s (s3) ?_ ?_); (focus (simp only [go_sem, *]; done)); simp only [go_sem, *])) | ((with_reducible refine Qb ?_ ?_); focus kernel_rfl) | ((with_reducible refine And.intro ?_ ?_); focus omega) | (refine contA_of hK ?_; clear hK K'; simp only [go_sem, *]) | (simp only [thenA, inBlockA, go_sem, *]))
        all_goals first | contradiction | omega | skip
        (refine ⟨[_], [], [], ⟨rfl, trivial⟩, ?_⟩; simp only [go_sem, *])
      · rw [if_neg t] at hR
        rw [Bool.not_eq_true] at t
        rw [t] at s3
        clear t
        by_cases u : 0 < (rowAt p c.other).length
        · rw [if_pos u] at hR
          subst hR
          refine spec_body Tryz.func133 rfl (fun E hE => ?_); simp only [go_sem, Tryz.ntmps133]
          repeat' (first | (with_reducible (show runOps ..); first | (refine Qr rfl ?_; try intro K' hK; try simp only [go_sem, *]) | (refine Qi rfl rfl rfl rfl (fun hb K' hK => ?_) (fun hb => ?_) <;> (have hc := hb; try simp only [go_sem] at hc; simp only [go_sem, *]))) | (with_reducible (show Hold ..); first | refine Qh rfl ?_ | refine s_draw rfl Tryz.mixed (by kernel_rfl) ?_ | (refine s_cond rfl ⟨_, rfl, fun hb => ?_, fun hb => ?_⟩ <;> (have hc := hb; try simp only [go_sem] at hc)) | refine s_ret rfl ?_) | (with_reducible (show callA ..); first | ((first | refine call_s (s1) ?_ ?_ | refine call_s (s2) ?_ ?_ | refine call_s (s3) ?_ ?_); (focus (simp only [go_sem, *]; done)); simp only [go_sem, *])) | ((with_reducible refine Qb ?_ ?_); focus kernel_rfl) | ((with_reducible refine And.intro ?_ ?_); focus omega) | (refine contA_of hK ?_; clear hK K'; simp only [go_sem, *]) | (simp only [thenA, inBlockA, go_sem, *]))
          all_goals first | contradiction | omega | skip
          (refine ⟨[_], [], [], ⟨rfl, trivial⟩, ?_⟩; simp only [go_sem, *])
        · rw [if_neg u] at hR
          subst hR
          refine spec_body Tryz.func133 rfl (fun E hE => ?_); simp only [go_sem, Tryz.ntmps133]
          repeat' (first | (with_reducible (show runOps ..); first | (refine Qr rfl ?_; try intro K' hK; try simp only [go_sem, *]) | (refine Qi rfl rfl rfl rfl (fun hb K' hK => ?_) (fun hb => ?_) <;> (have hc := hb; try simp only [go_sem] at hc; simp only [go_sem, *]))) | (with_reducible (show Hold ..); first | refine Qh rfl ?_ | refine s_draw rfl Tryz.mixed (by kernel_rfl) ?_ | (refine s_cond rfl ⟨_, rfl, fun hb => ?_, fun hb => ?_⟩ <;> (have hc := hb; try simp only [go_sem] at hc)) | refine s_ret rfl ?_) | (with_reducible (show callA ..); first | ((first | refine call_s (s1) ?_ ?_ | refine call_s (s2) ?_ ?_ | refine call_s (s3) ?_ ?_); (focus (simp only [go_sem, *]; done)); simp only [go_sem, *])) | ((with_reducible refine Qb ?_ ?_); focus kernel_rfl) | ((with_reducible refine And.intro ?_ ?_); focus omega) | (refine contA_of hK ?_; clear hK K'; simp only [go_sem, *]) | (simp only [thenA, inBlockA, go_sem, *]))
          all_goals first | contradiction | omega | skip
          (refine ⟨[_], [], [], ⟨rfl, trivial⟩, ?_⟩; simp only [go_sem, *])
    · have r' := idx_no r
      rw [if_pos (.inr r)] at hR
      clear q r
      generalize idxP (rowAt p c.street) c.src = ix at *
      generalize idxP (rowAt p c.street) c.dst = iy at *
      subst hR
      refine spec_body Tryz.func133 rfl (fun E hE => ?_); simp only [go_sem, Tryz.ntmps133]
      repeat' (first | (with_reducible (show runOps ..); first | (refine Qr rfl ?_; try intro K' hK; try simp only [go_sem, *]) | (refine Qi rfl rfl rfl rfl (fun hb K' hK => ?_) (fun hb => ?_) <;> (have hc := hb; try simp only [go_sem] at hc; simp only [go_sem, *]))) | (with_reducible (show Hold ..); first | refine Qh rfl ?_ | refine s_draw rfl Tryz.mixed (by kernel_rfl) ?_ | (refine s_cond rfl ⟨_, rfl, fun hb => ?_, fun hb => ?_⟩ <;> (have hc := hb; try simp only [go_sem] at hc)) | refine s_ret rfl ?_) | (with_reducible (show callA ..); first | ((first | refine call_s (s1) ?_ ?_ | refine call_s (s2) ?_ ?_); (focus (simp only [go_sem, *]; done)); simp only [go_sem, *])) | ((with_reducible refine Qb ?_ ?_); focus kernel_rfl) | ((with_reducible refine And.intro ?_ ?_); focus omega) | (refine contA_of hK ?_; clear hK K'; simp only [go_sem, *]) | (simp only [thenA, inBlockA, go_sem, *]))
      all_goals first | contradiction | omega | skip
      (refine ⟨[_], [], [], ⟨rfl, trivial⟩, ?_⟩; simp only [go_sem, *])
  · have q' := idx_no q
    rw [if_pos (.inl q)] at hR
    clear q
    generalize idxP (rowAt p c.street) c.src = ix at *
    subst hR
    refine spec_body Tryz.func133 rfl (fun E hE => ?_); simp only [go_sem, Tryz.ntmps133]
    repeat' (first | (with_reducible (show runOps ..); first | (refine Qr rfl ?_; try intro K' hK; try simp only [go_sem, *]) | (refine Qi rfl rfl rfl rfl (fun hb K' hK => ?_) (fun hb => ?_) <;> (have hc := hb; try simp only [go_sem] at hc; simp only [go_sem, *]))) | (with_reducible (show Hold ..); first | refine Qh rfl ?_ | refine s_draw rfl Tryz.mixed (by kernel_rfl) ?_ | (refine s_cond rfl ⟨_, rfl, fun hb => ?_, fun hb => ?_⟩ <;> (have hc := hb; try simp only [go_sem] at hc)) | refine s_ret rfl ?_) | (with_reducible (show callA ..); first | (refine call_s (s1) ?_ ?_; (focus (simp only [go_sem, *]; done)); simp only [go_sem, *])) | ((with_reducible refine Qb ?_ ?_); focus kernel_rfl) | ((with_reducible refine And.intro ?_ ?_); focus omega) | (refine contA_of hK ?_; clear hK K'; simp only [go_sem, *]) | (simp only [thenA, inBlockA, go_sem, *]))
    all_goals first | contradiction | omega | skip
    (refine ⟨[_], [], [], ⟨rfl, trivial⟩, ?_⟩; simp only [go_sem, *])
theorem fits_k (p : Plan) (c : Change) (hs : 0 ≤ c.street ∧ c.street < p.length) (k : c.kind < 4) : Spec Tryz.prog 133 [encPlan p, c.enc] [] (iV 0) [] := by
  have hs' : c.street.toNat < p.length := by omega
  obtain ⟨hs0, hs1⟩ := hs
  have k7 : (c.kind == 7) = false := by rw [beq_eq_false_iff_ne]; omega
  have k4 : (c.kind == 4) = false := by rw [beq_eq_false_iff_ne]; omega
  have k5 : (c.kind == 5) = false := by rw [beq_eq_false_iff_ne]; omega
  have k6 : (c.kind == 6) = false := by rw [beq_eq_false_iff_ne]; omega
  clear k
  refine spec_body Tryz.func133 rfl (fun E hE => ?_); simp only [go_sem, Tryz.ntmps133]
  repeat' (first | (with_reducible (show runOps ..); first | (refine Qr rfl ?_; try intro K' hK; try simp only [go_sem, *]) | (refine Qi rfl rfl rfl rfl (fun hb K' hK => ?_) (fun hb => ?_) <;> (have hc := hb; try simp only [go_sem] at hc; simp only [go_sem, *]))) | (with_reducible (show Hold ..); first | refine Qh rfl ?_ | refine s_draw rfl Tryz.mixed (by kernel_rfl) ?_ | (refine s_cond rfl ⟨_, rfl, fun hb => ?_, fun hb => ?_⟩ <;> (have hc := hb; try simp only [go_sem] at hc)) | refine s_ret rfl ?_) | ((with_reducible refine Qb ?_ ?_); focus kernel_rfl) | ((with_reducible refine And.intro ?_ ?_); focus omega) | (refine contA_of hK ?_; clear hK K'; simp only [go_sem, *]) | (simp only [thenA, inBlockA, go_sem, *]))
  all_goals first | contradiction | omega | skip
  (refine ⟨[_], [], [], ⟨rfl, trivial⟩, ?_⟩; simp only [go_sem, *])
theorem sp_rfits (p : Plan) (c : Change) (v : Valid p) (hk : 1 ≤ c.kind ∧ c.kind ≤ 7) (hs : 0 ≤ c.street ∧ c.street < p.length) (ho : c.kind = 4 ∨ c.kind = 7 → 0 ≤ c.other ∧ c.other < p.length) : Spec Tryz.prog 133 [encPlan p, c.enc] [] (iV (fitsE p c)) [] := by
  rcases kinds hk with k | k | k | k | k | k | k
  · rw [show fitsE p c = 0 by simp [fitsE, k]]; exact fits_k p c hs (by omega)
  · rw [show fitsE p c = 0 by simp [fitsE, k]]; exact fits_k p c hs (by omega)
  · rw [show fitsE p c = 0 by simp [fitsE, k]]; exact fits_k p c hs (by omega)
  · exact fits_k4 p c v hs (ho (.inl k)) k _ rfl
  · exact fits_k5 p c v hs k _ rfl
  · exact fits_k6 p c v hs k _ rfl
  · exact fits_k7 p c v hs (ho (.inr k)) k _ rfl
theorem sp_Can (p : Plan) (c : Change) (v : Valid p) : Spec Tryz.prog 98 [encPlan p, c.enc] [] (iV (can p c)) [] := by
  have hp3 := v.len
  obtain ⟨x, hx, s1⟩ := sp_named p c (by omega)
  rw [can_named]
  by_cases e : namedErr p c = 0
  · rw [if_pos e]
    rw [e] at s1
    have hx2 := hx e
    clear hx
    rw [← hx2]
    by_cases q : c = x
    · rw [if_pos q]
      have q' : decide (c = x) = true := by simpa using q
      have hb : betw c.kind 1 7 = true ∧ betw c.street 0 ((p.length : Int) - 1) = true ∧ (c.kind = 4 ∨ c.kind = 7 → betw c.other 0 ((p.length : Int) - 1) = true) := by
        unfold namedErr at e
        split at e
        · omega
        · rename_i h1
          split at e
          · omega
          · rename_i h2
            split at e
            · omega
            · rename_i h3
              refine ⟨by simpa using h1, by simpa using h2, fun h => ?_⟩
              cases hh : betw c.other 0 ((p.length : Int) - 1) with
              | true => rfl
              | false => exact absurd ⟨h, hh⟩ h3
      have b1 := betw_iff.1 hb.1
      have b2 := betw_iff.1 hb.2.1
      have s2 := sp_rfits p c v b1 (by omega) (fun h => by have := betw_iff.1 (hb.2.2 h); omega)
      clear q hb b1 b2 e hx2
      refine spec_body Tryz.func98 rfl (fun E hE => ?_); simp only [go_sem, Tryz.ntmps98]
      repeat' (first | (with_reducible (show runOps ..); first | (refine Qr rfl ?_; try intro K' hK; try simp only [go_sem, *])) | (with_reducible (show Hold ..); first | refine Qh rfl ?_ | (refine s_cond rfl ⟨_, rfl, fun hb => ?_, fun hb => ?_⟩ <;> (have hc := hb; try simp only [go_sem] at hc)) | refine s_ret rfl ?_) | (with_reducible (show callA ..); first | ((first | refine call_s (s1) ?_ ?_ | refine call_s (s2) ?_ ?_); (focus (simp only [go_sem, *]; done)); simp only [go_sem, *])) | ((with_reducible refine Qb ?_ ?_); focus kernel_rfl) | ((with_reducible refine And.intro ?_ ?_); focus omega) | (refine contA_of hK ?_; clear hK K'; simp only [go_sem, *]) | (simp only [thenA, inBlockA, go_sem, *]))
      all_goals first | contradiction | skip
      (refine ⟨[_], [], [], ⟨rfl, trivial⟩, ?_⟩; simp only [go_sem, *])
    · rw [if_neg q]
      have q' : decide (c = x) = false := by simpa using q
      clear q e hx2
      refine spec_body Tryz.func98 rfl (fun E hE => ?_); simp only [go_sem, Tryz.ntmps98]
      repeat' (first | (with_reducible (show runOps ..); first | (refine Qr rfl ?_; try intro K' hK; try simp only [go_sem, *])) | (with_reducible (show Hold ..); first | refine Qh rfl ?_ | (refine s_cond rfl ⟨_, rfl, fun hb => ?_, fun hb => ?_⟩ <;> (have hc := hb; try simp only [go_sem] at hc)) | refine s_ret rfl ?_) | (with_reducible (show callA ..); first | (refine call_s (s1) ?_ ?_; (focus (simp only [go_sem, *]; done)); simp only [go_sem, *])) | ((with_reducible refine Qb ?_ ?_); focus kernel_rfl) | ((with_reducible refine And.intro ?_ ?_); focus omega) | (refine contA_of hK ?_; clear hK K'; simp only [go_sem, *]) | (simp only [thenA, inBlockA, go_sem, *]))
      all_goals first | contradiction | skip
      (refine ⟨[_], [], [], ⟨rfl, trivial⟩, ?_⟩; simp only [go_sem, *])
  · rw [if_neg e]
    have e' : (namedErr p c == 0) = false := by rw [beq_eq_false_iff_ne]; exact e
    clear hx
    generalize namedErr p c = er at *
    refine spec_body Tryz.func98 rfl (fun E hE => ?_); simp only [go_sem, Tryz.ntmps98]
    repeat' (first | (with_reducible (show runOps ..); first | (refine Qr rfl ?_; try intro K' hK; try simp only [go_sem, *])) | (with_reducible (show Hold ..); first | refine Qh rfl ?_ | (refine s_cond rfl ⟨_, rfl, fun hb => ?_, fun hb => ?_⟩ <;> (have hc := hb; try simp only [go_sem] at hc)) | refine s_ret rfl ?_) | (with_reducible (show callA ..); first | (refine call_s (s1) ?_ ?_; (focus (simp only [go_sem, *]; done)); simp only [go_sem, *])) | ((with_reducible refine Qb ?_ ?_); focus kernel_rfl) | ((with_reducible refine And.intro ?_ ?_); focus omega) | (refine contA_of hK ?_; clear hK K'; simp only [go_sem, *]) | (simp only [thenA, inBlockA, go_sem, *]))
    all_goals first | contradiction | skip
    (refine ⟨[_], [], [], ⟨rfl, trivial⟩, ?_⟩; simp only [go_sem, *])
end Go.Abs

namespace Go.Abs
open Go Go.Proofs
set_option maxRecDepth 10000
set_option maxHeartbeats 4000000
theorem tpar_own {l : List Plate} (h : Sound l) {x : Plate} (hx : x ∈ l) : l.filter (tparB (decide (x.number.tmod 2 = 1))) = l.filter (fun y => oddB y == oddB x) := by
  refine List.filter_congr (fun y hy => ?_)
  have := (ok_iff _).1 (h.ok _ hx)
  have := (ok_iff _).1 (h.ok _ hy)
  have e1 : x.number.tmod 2 = x.number % 2 := Int.tmod_eq_emod_of_nonneg (by omega)
  have e2 : y.number.tmod 2 = y.number % 2 := Int.tmod_eq_emod_of_nonneg (by omega)
  unfold tparB oddB
  rw [e1, e2]
  rfl
theorem to_k1 (p : Plan) (c : Change) (x : Plate) (v : Valid p) (hs : 0 ≤ c.street ∧ c.street < p.length) (hx : x ∈ rowAt p c.street) (k : c.kind = 1) : Spec Tryz.prog 141 [encPlan p, c.enc, x.enc] [] (encHouses (toP p c x)) [] := by
  generalize hRR : toP p c x = R
  unfold toP at hRR
  rw [if_pos k] at hRR
  have k1 : (c.kind == 1) = true := by rw [beq_iff_eq]; exact k
  clear k
  have hl := (v.row c.street).len
  have hxk := (ok_iff _).1 ((v.row c.street).ok _ hx)
  have hs' : c.street.toNat < p.length := by omega
  obtain ⟨hs0, hs1⟩ := hs
  have ho := tpar_own (v.row c.street) hx
  have sp := sp_parity (rowAt p c.street) (decide (x.number.tmod 2 = 1)) (by omega)
  rw [ho] at sp
  have hxo := mem_own hx
  have hol : ((rowAt p c.street).filter (fun y => oddB y == oddB x)).length ≤ 8 := Nat.le_trans (List.length_filter_le _ _) hl
  have e1 : x.number.tmod 2 = x.number % 2 := Int.tmod_eq_emod_of_nonneg (by omega)
  clear ho
  generalize (rowAt p c.street).filter (fun y => oddB y == oddB x) = o at *
  have si := sp_index o x (by omega)
  rw [idxP_of hxo] at si
  have hk := idx_lt hxo
  generalize o.idxOf x = kk at *
  have w1 : IntKind.i64.wrap ((o.length : Int) - 1) = ((o.length - 1 : Nat) : Int) := by rw [wrap_i64 (by omega) (by omega)]; omega
  have hj : o.length - 1 - kk < o.length := by omega
  have w2 : IntKind.i64.wrap (((o.length - 1 : Nat) : Int) - (kk : Int)) = ((o.length - 1 - kk : Nat) : Int) := by rw [wrap_i64 (by omega) (by omega)]; omega
  generalize o.length - 1 - kk = j at *
  subst hRR
  rw [e1] at sp
  refine spec_body Tryz.func141 rfl (fun E hE => ?_); simp only [go_sem, Tryz.ntmps141]
  repeat' (first | (with_reducible (show runOps ..); first | (refine Qr rfl ?_; try intro K' hK; try simp only [go_sem, *]) | (refine Qi rfl rfl rfl rfl (fun hb K' hK => ?_) (fun hb => ?_) <;> (have hc := hb; try simp only [go_sem] at hc; simp only [go_sem, *]))) | (with_reducible (show Hold ..); first | refine Qh rfl ?_ | refine s_draw rfl Tryz.mixed (by kernel_rfl) ?_ | (refine s_cond rfl ⟨_, rfl, fun hb => ?_, fun hb => ?_⟩ <;> (have hc := hb; try simp only [go_sem] at hc)) | refine s_ret rfl ?_) | (with_reducible (show callA ..); first | (refine call_n (sp) ?_ ?_ ?_ ?_; (focus (simp only [go_sem, *]; done)); (focus (first | (simp; done) | (simp [go_sem]; done))); (focus (first | (simp; done) | (simp [go_sem]; done))); simp only [go_sem, *])) | ((with_reducible refine Qb ?_ ?_); focus kernel_rfl) | ((with_reducible refine And.intro ?_ ?_); focus omega) | (refine contA_of hK ?_; clear hK K'; simp only [go_sem, *]) | (simp only [thenA, inBlockA, go_sem, *]))
  all_goals first | contradiction | omega | skip
  (refine call_x [3] (si) (by simp only [go_sem, *]) (by first | exact .raw _) ?_; simp only [go_sem, *])
  repeat' (first | (with_reducible (show runOps ..); first | (refine Qr rfl ?_; try intro K' hK; try simp only [go_sem, *]) | (refine Qi rfl rfl rfl rfl (fun hb K' hK => ?_) (fun hb => ?_) <;> (have hc := hb; try simp only [go_sem] at hc; simp only [go_sem, *]))) | (with_reducible (show Hold ..); first | refine Qh rfl ?_ | refine s_draw rfl Tryz.mixed (by kernel_rfl) ?_ | (refine s_cond rfl ⟨_, rfl, fun hb => ?_, fun hb => ?_⟩ <;> (have hc := hb; try simp only [go_sem] at hc)) | refine s_ret rfl ?_) | ((with_reducible refine Qb ?_ ?_); focus kernel_rfl) | ((with_reducible refine And.intro ?_ ?_); focus omega) | (refine contA_of hK ?_; clear hK K'; simp only [go_sem, *]) | (simp only [thenA, inBlockA, go_sem, *]))
  all_goals first | contradiction | omega | skip
  refine ⟨[.own 5 3 0 1], [], [5], ⟨by simp only [resOne, go_sem], trivial⟩, ?_⟩
  simp only [go_sem, *]
theorem to_k2 (p : Plan) (c : Change) (x : Plate) (v : Valid p) (hs : 0 ≤ c.street ∧ c.street < p.length) (hx : x ∈ rowAt p c.street) (k : c.kind = 2) : Spec Tryz.prog 141 [encPlan p, c.enc, x.enc] [] (encHouses (toP p c x)) [] := by
  generalize hRR : toP p c x = R
  unfold toP at hRR
  rw [if_neg (by omega : ¬ c.kind = 1)] at hRR
  rw [if_pos k] at hRR
  have k2 : (c.kind == 2) = true := by rw [beq_iff_eq]; exact k
  have k1 : (c.kind == 1) = false := by rw [beq_eq_false_iff_ne]; omega
  clear k
  have hl := (v.row c.street).len
  have hxk := (ok_iff _).1 ((v.row c.street).ok _ hx)
  have hs' : c.street.toNat < p.length := by omega
  obtain ⟨hs0, hs1⟩ := hs
  have ho := tpar_own (v.row c.street) hx
  have sp := sp_parity (rowAt p c.street) (decide (x.number.tmod 2 = 1)) (by omega)
  rw [ho] at sp
  have hxo := mem_own hx
  have hol : ((rowAt p c.street).filter (fun y => oddB y == oddB x)).length ≤ 8 := Nat.le_trans (List.length_filter_le _ _) hl
  have e1 : x.number.tmod 2 = x.number % 2 := Int.tmod_eq_emod_of_nonneg (by omega)
  clear ho
  generalize (rowAt p c.street).filter (fun y => oddB y == oddB x) = o at *
  have si := sp_index o x (by omega)
  rw [idxP_of hxo] at si
  have hk := idx_lt hxo
  generalize o.idxOf x = kk at *
  have w1 : IntKind.i64.wrap (x.number + 1) = x.number + 1 := wrap_i64 (by omega) (by omega)
  have w2 : IntKind.i64.wrap (x.number - 1) = x.number - 1 := wrap_i64 (by omega) (by omega)
  by_cases q : x.number % 2 = 1
  · rw [if_pos ((oddB_iff x).2 q)] at hRR
    have q' : (x.number % 2 == 1) = true := by rw [beq_iff_eq]; exact q
    rw [e1, decide_eq_true q] at sp
    clear q
    subst hRR
    refine spec_body Tryz.func141 rfl (fun E hE => ?_); simp only [go_sem, Tryz.ntmps141]
    repeat' (first | (with_reducible (show runOps ..); first | (refine Qr rfl ?_; try intro K' hK; try simp only [go_sem, *]) | (refine Qi rfl rfl rfl rfl (fun hb K' hK => ?_) (fun hb => ?_) <;> (have hc := hb; try simp only [go_sem] at hc; simp only [go_sem, *]))) | (with_reducible (show Hold ..); first | refine Qh rfl ?_ | refine s_draw rfl Tryz.mixed (by kernel_rfl) ?_ | (refine s_cond rfl ⟨_, rfl, fun hb => ?_, fun hb => ?_⟩ <;> (have hc := hb; try simp only [go_sem] at hc)) | refine s_ret rfl ?_) | (with_reducible (show callA ..); first | (refine call_n (sp) ?_ ?_ ?_ ?_; (focus (simp only [go_sem, *]; done)); (focus (first | (simp; done) | (simp [go_sem]; done))); (focus (first | (simp; done) | (simp [go_sem]; done))); simp only [go_sem, *])) | ((with_reducible refine Qb ?_ ?_); focus kernel_rfl) | ((with_reducible refine And.intro ?_ ?_); focus omega) | (refine contA_of hK ?_; clear hK K'; simp only [go_sem, *]) | (simp only [thenA, inBlockA, go_sem, *]))
    all_goals first | contradiction | omega | skip
    (refine call_x [3] (si) (by simp only [go_sem, *]) (by first | exact .raw _) ?_; simp only [go_sem, *])
    repeat' (first | (with_reducible (show runOps ..); first | (refine Qr rfl ?_; try intro K' hK; try simp only [go_sem, *]) | (refine Qi rfl rfl rfl rfl (fun hb K' hK => ?_) (fun hb => ?_) <;> (have hc := hb; try simp only [go_sem] at hc; simp only [go_sem, *]))) | (with_reducible (show Hold ..); first | refine Qh rfl ?_ | refine s_draw rfl Tryz.mixed (by kernel_rfl) ?_ | (refine s_cond rfl ⟨_, rfl, fun hb => ?_, fun hb => ?_⟩ <;> (have hc := hb; try simp only [go_sem] at hc)) | refine s_ret rfl ?_) | ((with_reducible refine Qb ?_ ?_); focus kernel_rfl) | ((with_reducible refine And.intro ?_ ?_); focus omega) | (refine contA_of hK ?_; clear hK K'; simp only [go_sem, *]) | (simp only [thenA, inBlockA, go_sem, *]))
    all_goals first | contradiction | omega | skip
    refine ⟨[.own 5 3 0 1], [], [5], ⟨by simp only [resOne, go_sem], trivial⟩, ?_⟩
    simp only [go_sem, *]
  · rw [if_neg (fun h => q ((oddB_iff x).1 h))] at hRR
    have q' : (x.number % 2 == 1) = false := by rw [beq_eq_false_iff_ne]; exact q
    rw [e1, decide_eq_false q] at sp
    clear q
    subst hRR
    refine spec_body Tryz.func141 rfl (fun E hE => ?_); simp only [go_sem, Tryz.ntmps141]
    repeat' (first | (with_reducible (show runOps ..); first | (refine Qr rfl ?_; try intro K' hK; try simp only [go_sem, *]) | (refine Qi rfl rfl rfl rfl (fun hb K' hK => ?_) (fun hb => ?_) <;> (have hc := hb; try simp only [go_sem] at hc; simp only [go_sem, *]))) | (with_reducible (show Hold ..); first | refine Qh rfl ?_ | refine s_draw rfl Tryz.mixed (by kernel_rfl) ?_ | (refine s_cond rfl ⟨_, rfl, fun hb => ?_, fun hb => ?_⟩ <;> (have hc := hb; try simp only [go_sem] at hc)) | refine s_ret rfl ?_) | (with_reducible (show callA ..); first | (refine call_n (sp) ?_ ?_ ?_ ?_; (focus (simp only [go_sem, *]; done)); (focus (first | (simp; done) | (simp [go_sem]; done))); (focus (first | (simp; done) | (simp [go_sem]; done))); simp only [go_sem, *])) | ((with_reducible refine Qb ?_ ?_); focus kernel_rfl) | ((with_reducible refine And.intro ?_ ?_); focus omega) | (refine contA_of hK ?_; clear hK K'; simp only [go_sem, *]) | (simp only [thenA, inBlockA, go_sem, *]))
    all_goals first | contradiction | omega | skip
    (refine call_x [3] (si) (by simp only [go_sem, *]) (by first | exact .raw _) ?_; simp only [go_sem, *])
    repeat' (first | (with_reducible (show runOps ..); first | (refine Qr rfl ?_; try intro K' hK; try simp only [go_sem, *]) | (refine Qi rfl rfl rfl rfl (fun hb K' hK => ?_) (fun hb => ?_) <;> (have hc := hb; try simp only [go_sem] at hc; simp only [go_sem, *]))) | (with_reducible (show Hold ..); first | refine Qh rfl ?_ | refine s_draw rfl Tryz.mixed (by kernel_rfl) ?_ | (refine s_cond rfl ⟨_, rfl, fun hb => ?_, fun hb => ?_⟩ <;> (have hc := hb; try simp only [go_sem] at hc)) | refine s_ret rfl ?_) | ((with_reducible refine Qb ?_ ?_); focus kernel_rfl) | ((with_reducible refine And.intro ?_ ?_); focus omega) | (refine contA_of hK ?_; clear hK K'; simp only [go_sem, *]) | (simp only [thenA, inBlockA, go_sem, *]))
    all_goals first | contradiction | omega | skip
    refine ⟨[.own 5 3 0 1], [], [5], ⟨by simp only [resOne, go_sem], trivial⟩, ?_⟩
    simp only [go_sem, *]
theorem to_k3 (p : Plan) (c : Change) (x : Plate) (v : Valid p) (hs : 0 ≤ c.street ∧ c.street < p.length) (hx : x ∈ rowAt p c.street) (k : c.kind = 3) : Spec Tryz.prog 141 [encPlan p, c.enc, x.enc] [] (encHouses (toP p c x)) [] := by
  generalize hRR : toP p c x = R
  unfold toP at hRR
  rw [if_neg (by omega : ¬ c.kind = 1)] at hRR
  rw [if_neg (by omega : ¬ c.kind = 2)] at hRR
  rw [if_pos k] at hRR
  have k3 : (c.kind == 3) = true := by rw [beq_iff_eq]; exact k
  have k1 : (c.kind == 1) = false := by rw [beq_eq_false_iff_ne]; omega
  have k2 : (c.kind == 2) = false := by rw [beq_eq_false_iff_ne]; omega
  clear k
  have hl := (v.row c.street).len
  have hxk := (ok_iff _).1 ((v.row c.street).ok _ hx)
  have hs' : c.street.toNat < p.length := by omega
  obtain ⟨hs0, hs1⟩ := hs
  have ho := tpar_own (v.row c.street) hx
  have sp := sp_parity (rowAt p c.street) (decide (x.number.tmod 2 = 1)) (by omega)
  rw [ho] at sp
  have hxo := mem_own hx
  have hol : ((rowAt p c.street).filter (fun y => oddB y == oddB x)).length ≤ 8 := Nat.le_trans (List.length_filter_le _ _) hl
  have e1 : x.number.tmod 2 = x.number % 2 := Int.tmod_eq_emod_of_nonneg (by omega)
  clear ho
  generalize (rowAt p c.street).filter (fun y => oddB y == oddB x) = o at *
  have si := sp_index o x (by omega)
  rw [idxP_of hxo] at si
  have hk := idx_lt hxo
  generalize o.idxOf x = kk at *
  have w1 : IntKind.i64.wrap (2 * (kk : Int)) = 2 * (kk : Int) := wrap_i64 (by omega) (by omega)
  have w2 : IntKind.i64.wrap (2 * (kk : Int) + 2) = 2 * (kk : Int) + 2 := wrap_i64 (by omega) (by omega)
  have w3 : IntKind.i64.wrap (2 * (kk : Int) + 2 - x.number % 2) = 2 * (kk : Int) + 2 - x.number % 2 := wrap_i64 (by omega) (by omega)
  subst hRR
  rw [e1] at sp
  refine spec_body Tryz.func141 rfl (fun E hE => ?_); simp only [go_sem, Tryz.ntmps141]
  repeat' (first | (with_reducible (show runOps ..); first | (refine Qr rfl ?_; try intro K' hK; try simp only [go_sem, *]) | (refine Qi rfl rfl rfl rfl (fun hb K' hK => ?_) (fun hb => ?_) <;> (have hc := hb; try simp only [go_sem] at hc; simp only [go_sem, *]))) | (with_reducible (show Hold ..); first | refine Qh rfl ?_ | refine s_draw rfl Tryz.mixed (by kernel_rfl) ?_ | (refine s_cond rfl ⟨_, rfl, fun hb => ?_, fun hb => ?_⟩ <;> (have hc := hb; try simp only [go_sem] at hc)) | refine s_ret rfl ?_) | (with_reducible (show callA ..); first | (refine call_n (sp) ?_ ?_ ?_ ?_; (focus (simp only [go_sem, *]; done)); (focus (first | (simp; done) | (simp [go_sem]; done))); (focus (first | (simp; done) | (simp [go_sem]; done))); simp only [go_sem, *])) | ((with_reducible refine Qb ?_ ?_); focus kernel_rfl) | ((with_reducible refine And.intro ?_ ?_); focus omega) | (refine contA_of hK ?_; clear hK K'; simp only [go_sem, *]) | (simp only [thenA, inBlockA, go_sem, *]))
  all_goals first | contradiction | omega | skip
  (refine call_x [3] (si) (by simp only [go_sem, *]) (by first | exact .raw _) ?_; simp only [go_sem, *])
  repeat' (first | (with_reducible (show runOps ..); first | (refine Qr rfl ?_; try intro K' hK; try simp only [go_sem, *]) | (refine Qi rfl rfl rfl rfl (fun hb K' hK => ?_) (fun hb => ?_) <;> (have hc := hb; try simp only [go_sem] at hc; simp only [go_sem, *]))) | (with_reducible (show Hold ..); first | refine Qh rfl ?_ | refine s_draw rfl Tryz.mixed (by kernel_rfl) ?_ | (refine s_cond rfl ⟨_, rfl, fun hb => ?_, fun hb => ?_⟩ <;> (have hc := hb; try simp only [go_sem] at hc)) | refine s_ret rfl ?_) | ((with_reducible refine Qb ?_ ?_); focus kernel_rfl) | ((with_reducible refine And.intro ?_ ?_); focus omega) | (refine contA_of hK ?_; clear hK K'; simp only [go_sem, *]) | (simp only [thenA, inBlockA, go_sem, *]))
  all_goals first | contradiction | omega | skip
  refine ⟨[.own 5 3 0 1], [], [5], ⟨by simp only [resOne, go_sem], trivial⟩, ?_⟩
  simp only [go_sem, *]
theorem to_k4 (p : Plan) (c : Change) (x : Plate) (v : Valid p) (hs : 0 ≤ c.street ∧ c.street < p.length) (hq : 0 ≤ c.other ∧ c.other < p.length) (hx : x ∈ rowAt p c.street) (k : c.kind = 4) : Spec Tryz.prog 141 [encPlan p, c.enc, x.enc] [] (encHouses (toP p c x)) [] := by
  generalize hRR : toP p c x = R
  unfold toP at hRR
  rw [if_neg (by omega : ¬ c.kind = 1)] at hRR
  rw [if_neg (by omega : ¬ c.kind = 2)] at hRR
  rw [if_neg (by omega : ¬ c.kind = 3)] at hRR
  rw [if_pos k] at hRR
  have k4 : (c.kind == 4) = true := by rw [beq_iff_eq]; exact k
  have k1 : (c.kind == 1) = false := by rw [beq_eq_false_iff_ne]; omega
  have k2 : (c.kind == 2) = false := by rw [beq_eq_false_iff_ne]; omega
  have k3 : (c.kind == 3) = false := by rw [beq_eq_false_iff_ne]; omega
  clear k
  have hl := (v.row c.street).len
  have hxk := (ok_iff _).1 ((v.row c.street).ok _ hx)
  have hs' : c.street.toNat < p.length := by omega
  obtain ⟨hs0, hs1⟩ := hs
  have ho := tpar_own (v.row c.street) hx
  have sp := sp_parity (rowAt p c.street) (decide (x.number.tmod 2 = 1)) (by omega)
  rw [ho] at sp
  have hxo := mem_own hx
  have hol : ((rowAt p c.street).filter (fun y => oddB y == oddB x)).length ≤ 8 := Nat.le_trans (List.length_filter_le _ _) hl
  have e1 : x.number.tmod 2 = x.number % 2 := Int.tmod_eq_emod_of_nonneg (by omega)
  clear ho
  generalize (rowAt p c.street).filter (fun y => oddB y == oddB x) = o at *
  have si := sp_index o x (by omega)
  rw [idxP_of hxo] at si
  have hk := idx_lt hxo
  generalize o.idxOf x = kk at *
  have hob := base_le (v.row c.other)
  have sb := sp_base (rowAt p c.other) (by have := (v.row c.other).len; omega) (v.row c.other).ok
  have ho' : c.other.toNat < p.length := by omega
  obtain ⟨ho0, ho1⟩ := hq
  generalize base (rowAt p c.other) = bb at *
  have w1 : IntKind.i64.wrap (x.number + bb) = x.number + bb := wrap_i64 (by omega) (by omega)
  subst hRR
  rw [e1] at sp
  refine spec_body Tryz.func141 rfl (fun E hE => ?_); simp only [go_sem, Tryz.ntmps141]
  repeat' (first | (with_reducible (show runOps ..); first | (refine Qr rfl ?_; try intro K' hK; try simp only [go_sem, *]) | (refine Qi rfl rfl rfl rfl (fun hb K' hK => ?_) (fun hb => ?_) <;> (have hc := hb; try simp only [go_sem] at hc; simp only [go_sem, *]))) | (with_reducible (show Hold ..); first | refine Qh rfl ?_ | refine s_draw rfl Tryz.mixed (by kernel_rfl) ?_ | (refine s_cond rfl ⟨_, rfl, fun hb => ?_, fun hb => ?_⟩ <;> (have hc := hb; try simp only [go_sem] at hc)) | refine s_ret rfl ?_) | (with_reducible (show callA ..); first | (refine call_n (sp) ?_ ?_ ?_ ?_; (focus (simp only [go_sem, *]; done)); (focus (first | (simp; done) | (simp [go_sem]; done))); (focus (first | (simp; done) | (simp [go_sem]; done))); simp only [go_sem, *])) | ((with_reducible refine Qb ?_ ?_); focus kernel_rfl) | ((with_reducible refine And.intro ?_ ?_); focus omega) | (refine contA_of hK ?_; clear hK K'; simp only [go_sem, *]) | (simp only [thenA, inBlockA, go_sem, *]))
  all_goals first | contradiction | omega | skip
  (refine call_x [3] (si) (by simp only [go_sem, *]) (by first | exact .raw _) ?_; simp only [go_sem, *])
  repeat' (first | (with_reducible (show runOps ..); first | (refine Qr rfl ?_; try intro K' hK; try simp only [go_sem, *]) | (refine Qi rfl rfl rfl rfl (fun hb K' hK => ?_) (fun hb => ?_) <;> (have hc := hb; try simp only [go_sem] at hc; simp only [go_sem, *]))) | (with_reducible (show Hold ..); first | refine Qh rfl ?_ | refine s_draw rfl Tryz.mixed (by kernel_rfl) ?_ | (refine s_cond rfl ⟨_, rfl, fun hb => ?_, fun hb => ?_⟩ <;> (have hc := hb; try simp only [go_sem] at hc)) | refine s_ret rfl ?_) | (with_reducible (show callA ..); first | (refine call_s (sb) ?_ ?_; (focus (simp only [go_sem, *]; done)); simp only [go_sem, *])) | ((with_reducible refine Qb ?_ ?_); focus kernel_rfl) | ((with_reducible refine And.intro ?_ ?_); focus omega) | (refine contA_of hK ?_; clear hK K'; simp only [go_sem, *]) | (simp only [thenA, inBlockA, go_sem, *]))
  all_goals first | contradiction | omega | skip
  refine ⟨[.own 5 3 0 1], [], [5], ⟨by simp only [resOne, go_sem], trivial⟩, ?_⟩
  simp only [go_sem, *]
theorem to_k5 (p : Plan) (c : Change) (x : Plate) (v : Valid p) (hs : 0 ≤ c.street ∧ c.street < p.length) (hx : x ∈ rowAt p c.street) (k : c.kind = 5) : Spec Tryz.prog 141 [encPlan p, c.enc, x.enc] [] (encHouses (toP p c x)) [] := by
  generalize hRR : toP p c x = R
  unfold toP at hRR
  rw [if_neg (by omega : ¬ c.kind = 1)] at hRR
  rw [if_neg (by omega : ¬ c.kind = 2)] at hRR
  rw [if_neg (by omega : ¬ c.kind = 3)] at hRR
  rw [if_neg (by omega : ¬ c.kind = 4)] at hRR
  rw [if_pos k] at hRR
  have k5 : (c.kind == 5) = true := by rw [beq_iff_eq]; exact k
  have k1 : (c.kind == 1) = false := by rw [beq_eq_false_iff_ne]; omega
  have k2 : (c.kind == 2) = false := by rw [beq_eq_false_iff_ne]; omega
  have k3 : (c.kind == 3) = false := by rw [beq_eq_false_iff_ne]; omega
  have k4 : (c.kind == 4) = false := by rw [beq_eq_false_iff_ne]; omega
  clear k
  have hl := (v.row c.street).len
  have hxk := (ok_iff _).1 ((v.row c.street).ok _ hx)
  have hs' : c.street.toNat < p.length := by omega
  obtain ⟨hs0, hs1⟩ := hs
  have ho := tpar_own (v.row c.street) hx
  have sp := sp_parity (rowAt p c.street) (decide (x.number.tmod 2 = 1)) (by omega)
  rw [ho] at sp
  have hxo := mem_own hx
  have hol : ((rowAt p c.street).filter (fun y => oddB y == oddB x)).length ≤ 8 := Nat.le_trans (List.length_filter_le _ _) hl
  have e1 : x.number.tmod 2 = x.number % 2 := Int.tmod_eq_emod_of_nonneg (by omega)
  clear ho
  generalize (rowAt p c.street).filter (fun y => oddB y == oddB x) = o at *
  have si := sp_index o x (by omega)
  rw [idxP_of hxo] at si
  have hk := idx_lt hxo
  generalize o.idxOf x = kk at *
  have sl := sp_letter (rowAt p c.street) x.number (by omega)
  generalize letter (rowAt p c.street) x.number = lt at *
  rw [e1] at sp
  by_cases q : x = c.src
  · rw [if_pos q] at hRR
    have q' : decide (x = c.src) = true := decide_eq_true q
    clear q
    subst hRR
    refine spec_body Tryz.func141 rfl (fun E hE => ?_); simp only [go_sem, Tryz.ntmps141]
    repeat' (first | (with_reducible (show runOps ..); first | (refine Qr rfl ?_; try intro K' hK; try simp only [go_sem, *]) | (refine Qi rfl rfl rfl rfl (fun hb K' hK => ?_) (fun hb => ?_) <;> (have hc := hb; try simp only [go_sem] at hc; simp only [go_sem, *]))) | (with_reducible (show Hold ..); first | refine Qh rfl ?_ | refine s_draw rfl Tryz.mixed (by kernel_rfl) ?_ | (refine s_cond rfl ⟨_, rfl, fun hb => ?_, fun hb => ?_⟩ <;> (have hc := hb; try simp only [go_sem] at hc)) | refine s_ret rfl ?_) | (with_reducible (show callA ..); first | (refine call_n (sp) ?_ ?_ ?_ ?_; (focus (simp only [go_sem, *]; done)); (focus (first | (simp; done) | (simp [go_sem]; done))); (focus (first | (simp; done) | (simp [go_sem]; done))); simp only [go_sem, *])) | ((with_reducible refine Qb ?_ ?_); focus kernel_rfl) | ((with_reducible refine And.intro ?_ ?_); focus omega) | (refine contA_of hK ?_; clear hK K'; simp only [go_sem, *]) | (simp only [thenA, inBlockA, go_sem, *]))
    all_goals first | contradiction | omega | skip
    (refine call_x [3] (si) (by simp only [go_sem, *]) (by first | exact .raw _) ?_; simp only [go_sem, *])
    repeat' (first | (with_reducible (show runOps ..); first | (refine Qr rfl ?_; try intro K' hK; try simp only [go_sem, *]) | (refine Qi rfl rfl rfl rfl (fun hb K' hK => ?_) (fun hb => ?_) <;> (have hc := hb; try simp only [go_sem] at hc; simp only [go_sem, *]))) | (with_reducible (show Hold ..); first | refine Qh rfl ?_ | refine s_draw rfl Tryz.mixed (by kernel_rfl) ?_ | (refine s_cond rfl ⟨_, rfl, fun hb => ?_, fun hb => ?_⟩ <;> (have hc := hb; try simp only [go_sem] at hc)) | refine s_ret rfl ?_) | (with_reducible (show callA ..); first | (refine call_s (sl) ?_ ?_; (focus (simp only [go_sem, *]; done)); simp only [go_sem, *])) | ((with_reducible refine Qb ?_ ?_); focus kernel_rfl) | ((with_reducible refine And.intro ?_ ?_); focus omega) | (refine contA_of hK ?_; clear hK K'; simp only [go_sem, *]) | (simp only [thenA, inBlockA, go_sem, *]))
    all_goals first | contradiction | omega | skip
    refine ⟨[.own 5 3 0 2], [], [5], ⟨by simp only [resOne, go_sem], trivial⟩, ?_⟩
    simp only [go_sem, *]
  · rw [if_neg q] at hRR
    have q' : decide (x = c.src) = false := decide_eq_false q
    clear q
    subst hRR
    refine spec_body Tryz.func141 rfl (fun E hE => ?_); simp only [go_sem, Tryz.ntmps141]
    repeat' (first | (with_reducible (show runOps ..); first | (refine Qr rfl ?_; try intro K' hK; try simp only [go_sem, *]) | (refine Qi rfl rfl rfl rfl (fun hb K' hK => ?_) (fun hb => ?_) <;> (have hc := hb; try simp only [go_sem] at hc; simp only [go_sem, *]))) | (with_reducible (show Hold ..); first | refine Qh rfl ?_ | refine s_draw rfl Tryz.mixed (by kernel_rfl) ?_ | (refine s_cond rfl ⟨_, rfl, fun hb => ?_, fun hb => ?_⟩ <;> (have hc := hb; try simp only [go_sem] at hc)) | refine s_ret rfl ?_) | (with_reducible (show callA ..); first | (refine call_n (sp) ?_ ?_ ?_ ?_; (focus (simp only [go_sem, *]; done)); (focus (first | (simp; done) | (simp [go_sem]; done))); (focus (first | (simp; done) | (simp [go_sem]; done))); simp only [go_sem, *])) | ((with_reducible refine Qb ?_ ?_); focus kernel_rfl) | ((with_reducible refine And.intro ?_ ?_); focus omega) | (refine contA_of hK ?_; clear hK K'; simp only [go_sem, *]) | (simp only [thenA, inBlockA, go_sem, *]))
    all_goals first | contradiction | omega | skip
    (refine call_x [3] (si) (by simp only [go_sem, *]) (by first | exact .raw _) ?_; simp only [go_sem, *])
    repeat' (first | (with_reducible (show runOps ..); first | (refine Qr rfl ?_; try intro K' hK; try simp only [go_sem, *]) | (refine Qi rfl rfl rfl rfl (fun hb K' hK => ?_) (fun hb => ?_) <;> (have hc := hb; try simp only [go_sem] at hc; simp only [go_sem, *]))) | (with_reducible (show Hold ..); first | refine Qh rfl ?_ | refine s_draw rfl Tryz.mixed (by kernel_rfl) ?_ | (refine s_cond rfl ⟨_, rfl, fun hb => ?_, fun hb => ?_⟩ <;> (have hc := hb; try simp only [go_sem] at hc)) | refine s_ret rfl ?_) | ((with_reducible refine Qb ?_ ?_); focus kernel_rfl) | ((with_reducible refine And.intro ?_ ?_); focus omega) | (refine contA_of hK ?_; clear hK K'; simp only [go_sem, *]) | (simp only [thenA, inBlockA, go_sem, *]))
    all_goals first | contradiction | omega | skip
    refine ⟨[.own 5 3 0 1], [], [5], ⟨by simp only [resOne, go_sem], trivial⟩, ?_⟩
    simp only [go_sem, *]
theorem to_k6 (p : Plan) (c : Change) (x : Plate) (v : Valid p) (hs : 0 ≤ c.street ∧ c.street < p.length) (hx : x ∈ rowAt p c.street) (k : c.kind = 6) : Spec Tryz.prog 141 [encPlan p, c.enc, x.enc] [] (encHouses (toP p c x)) [] := by
  generalize hRR : toP p c x = R
  unfold toP at hRR
  rw [if_neg (by omega : ¬ c.kind = 1)] at hRR
  rw [if_neg (by omega : ¬ c.kind = 2)] at hRR
  rw [if_neg (by omega : ¬ c.kind = 3)] at hRR
  rw [if_neg (by omega : ¬ c.kind = 4)] at hRR
  rw [if_neg (by omega : ¬ c.kind = 5)] at hRR
  rw [if_pos k] at hRR
  have k6 : (c.kind == 6) = true := by rw [beq_iff_eq]; exact k
  have k1 : (c.kind == 1) = false := by rw [beq_eq_false_iff_ne]; omega
  have k2 : (c.kind == 2) = false := by rw [beq_eq_false_iff_ne]; omega
  have k3 : (c.kind == 3) = false := by rw [beq_eq_false_iff_ne]; omega
  have k4 : (c.kind == 4) = false := by rw [beq_eq_false_iff_ne]; omega
  have k5 : (c.kind == 5) = false := by rw [beq_eq_false_iff_ne]; omega
  clear k
  have hl := (v.row c.street).len
  have hxk := (ok_iff _).1 ((v.row c.street).ok _ hx)
  have hs' : c.street.toNat < p.length := by omega
  obtain ⟨hs0, hs1⟩ := hs
  have ho := tpar_own (v.row c.street) hx
  have sp := sp_parity (rowAt p c.street) (decide (x.number.tmod 2 = 1)) (by omega)
  rw [ho] at sp
  have hxo := mem_own hx
  have hol : ((rowAt p c.street).filter (fun y => oddB y == oddB x)).length ≤ 8 := Nat.le_trans (List.length_filter_le _ _) hl
  have e1 : x.number.tmod 2 = x.number % 2 := Int.tmod_eq_emod_of_nonneg (by omega)
  clear ho
  generalize (rowAt p c.street).filter (fun y => oddB y == oddB x) = o at *
  have si := sp_index o x (by omega)
  rw [idxP_of hxo] at si
  have hk := idx_lt hxo
  generalize o.idxOf x = kk at *
  rw [e1] at sp
  by_cases q : x = c.src
  · rw [if_pos q] at hRR
    have q' : decide (x = c.src) = true := decide_eq_true q
    clear q
    subst hRR
    refine spec_body Tryz.func141 rfl (fun E hE => ?_); simp only [go_sem, Tryz.ntmps141]
    repeat' (first | (with_reducible (show runOps ..); first | (refine Qr rfl ?_; try intro K' hK; try simp only [go_sem, *]) | (refine Qi rfl rfl rfl rfl (fun hb K' hK => ?_) (fun hb => ?_) <;> (have hc := hb; try simp only [go_sem] at hc; simp only [go_sem, *]))) | (with_reducible (show Hold ..); first | refine Qh rfl ?_ | refine s_draw rfl Tryz.mixed (by kernel_rfl) ?_ | (refine s_cond rfl ⟨_, rfl, fun hb => ?_, fun hb => ?_⟩ <;> (have hc := hb; try simp only [go_sem] at hc)) | refine s_ret rfl ?_) | (with_reducible (show callA ..); first | (refine call_n (sp) ?_ ?_ ?_ ?_; (focus (simp only [go_sem, *]; done)); (focus (first | (simp; done) | (simp [go_sem]; done))); (focus (first | (simp; done) | (simp [go_sem]; done))); simp only [go_sem, *])) | ((with_reducible refine Qb ?_ ?_); focus kernel_rfl) | ((with_reducible refine And.intro ?_ ?_); focus omega) | (refine contA_of hK ?_; clear hK K'; simp only [go_sem, *]) | (simp only [thenA, inBlockA, go_sem, *]))
    all_goals first | contradiction | omega | skip
    (refine call_x [3] (si) (by simp only [go_sem, *]) (by first | exact .raw _) ?_; simp only [go_sem, *])
    repeat' (first | (with_reducible (show runOps ..); first | (refine Qr rfl ?_; try intro K' hK; try simp only [go_sem, *]) | (refine Qi rfl rfl rfl rfl (fun hb K' hK => ?_) (fun hb => ?_) <;> (have hc := hb; try simp only [go_sem] at hc; simp only [go_sem, *]))) | (with_reducible (show Hold ..); first | refine Qh rfl ?_ | refine s_draw rfl Tryz.mixed (by kernel_rfl) ?_ | (refine s_cond rfl ⟨_, rfl, fun hb => ?_, fun hb => ?_⟩ <;> (have hc := hb; try simp only [go_sem] at hc)) | refine s_ret rfl ?_) | ((with_reducible refine Qb ?_ ?_); focus kernel_rfl) | ((with_reducible refine And.intro ?_ ?_); focus omega) | (refine contA_of hK ?_; clear hK K'; simp only [go_sem, *]) | (simp only [thenA, inBlockA, go_sem, *]))
    all_goals first | contradiction | omega | skip
    refine ⟨[nilV], [], [], ⟨by simp only [resOne, go_sem], trivial⟩, ?_⟩
    simp only [go_sem, *]
  · rw [if_neg q] at hRR
    have q' : decide (x = c.src) = false := decide_eq_false q
    clear q
    subst hRR
    refine spec_body Tryz.func141 rfl (fun E hE => ?_); simp only [go_sem, Tryz.ntmps141]
    repeat' (first | (with_reducible (show runOps ..); first | (refine Qr rfl ?_; try intro K' hK; try simp only [go_sem, *]) | (refine Qi rfl rfl rfl rfl (fun hb K' hK => ?_) (fun hb => ?_) <;> (have hc := hb; try simp only [go_sem] at hc; simp only [go_sem, *]))) | (with_reducible (show Hold ..); first | refine Qh rfl ?_ | refine s_draw rfl Tryz.mixed (by kernel_rfl) ?_ | (refine s_cond rfl ⟨_, rfl, fun hb => ?_, fun hb => ?_⟩ <;> (have hc := hb; try simp only [go_sem] at hc)) | refine s_ret rfl ?_) | (with_reducible (show callA ..); first | (refine call_n (sp) ?_ ?_ ?_ ?_; (focus (simp only [go_sem, *]; done)); (focus (first | (simp; done) | (simp [go_sem]; done))); (focus (first | (simp; done) | (simp [go_sem]; done))); simp only [go_sem, *])) | ((with_reducible refine Qb ?_ ?_); focus kernel_rfl) | ((with_reducible refine And.intro ?_ ?_); focus omega) | (refine contA_of hK ?_; clear hK K'; simp only [go_sem, *]) | (simp only [thenA, inBlockA, go_sem, *]))
    all_goals first | contradiction | omega | skip
    (refine call_x [3] (si) (by simp only [go_sem, *]) (by first | exact .raw _) ?_; simp only [go_sem, *])
    repeat' (first | (with_reducible (show runOps ..); first | (refine Qr rfl ?_; try intro K' hK; try simp only [go_sem, *]) | (refine Qi rfl rfl rfl rfl (fun hb K' hK => ?_) (fun hb => ?_) <;> (have hc := hb; try simp only [go_sem] at hc; simp only [go_sem, *]))) | (with_reducible (show Hold ..); first | refine Qh rfl ?_ | refine s_draw rfl Tryz.mixed (by kernel_rfl) ?_ | (refine s_cond rfl ⟨_, rfl, fun hb => ?_, fun hb => ?_⟩ <;> (have hc := hb; try simp only [go_sem] at hc)) | refine s_ret rfl ?_) | ((with_reducible refine Qb ?_ ?_); focus kernel_rfl) | ((with_reducible refine And.intro ?_ ?_); focus omega) | (refine contA_of hK ?_; clear hK K'; simp only [go_sem, *]) | (simp only [thenA, inBlockA, go_sem, *]))
    all_goals first | contradiction | omega | skip
    refine ⟨[.own 5 3 0 1], [], [5], ⟨by simp only [resOne, go_sem], trivial⟩, ?_⟩
    simp only [go_sem, *]
theorem to_k7 (p : Plan) (c : Change) (x : Plate) (v : Valid p) (hs : 0 ≤ c.street ∧ c.street < p.length) (hx : x ∈ rowAt p c.street) (k : c.kind = 7) : Spec Tryz.prog 141 [encPlan p, c.enc, x.enc] [] (encHouses (toP p c x)) [] := by
  generalize hRR : toP p c x = R
  unfold toP at hRR
  rw [if_neg (by omega : ¬ c.kind = 1)] at hRR
  rw [if_neg (by omega : ¬ c.kind = 2)] at hRR
  rw [if_neg (by omega : ¬ c.kind = 3)] at hRR
  rw [if_neg (by omega : ¬ c.kind = 4)] at hRR
  rw [if_neg (by omega : ¬ c.kind = 5)] at hRR
  rw [if_neg (by omega : ¬ c.kind = 6)] at hRR
  rw [if_pos k] at hRR
  have k7 : (c.kind == 7) = true := by rw [beq_iff_eq]; exact k
  have k1 : (c.kind == 1) = false := by rw [beq_eq_false_iff_ne]; omega
  have k2 : (c.kind == 2) = false := by rw [beq_eq_false_iff_ne]; omega
  have k3 : (c.kind == 3) = false := by rw [beq_eq_false_iff_ne]; omega
  have k4 : (c.kind == 4) = false := by rw [beq_eq_false_iff_ne]; omega
  have k5 : (c.kind == 5) = false := by rw [beq_eq_false_iff_ne]; omega
  have k6 : (c.kind == 6) = false := by rw [beq_eq_false_iff_ne]; omega
  clear k
  have hl := (v.row c.street).len
  have hxk := (ok_iff _).1 ((v.row c.street).ok _ hx)
  have hs' : c.street.toNat < p.length := by omega
  obtain ⟨hs0, hs1⟩ := hs
  have ho := tpar_own (v.row c.street) hx
  have sp := sp_parity (rowAt p c.street) (decide (x.number.tmod 2 = 1)) (by omega)
  rw [ho] at sp
  have hxo := mem_own hx
  have hol : ((rowAt p c.street).filter (fun y => oddB y == oddB x)).length ≤ 8 := Nat.le_trans (List.length_filter_le _ _) hl
  have e1 : x.number.tmod 2 = x.number % 2 := Int.tmod_eq_emod_of_nonneg (by omega)
  clear ho
  generalize (rowAt p c.street).filter (fun y => oddB y == oddB x) = o at *
  have si := sp_index o x (by omega)
  rw [idxP_of hxo] at si
  have hk := idx_lt hxo
  generalize o.idxOf x = kk at *
  have sb1 := sp_Before x c.src
  have sb2 := sp_Before c.dst x
  have si1 := sp_index (rowAt p c.street) x (by omega)
  have si2 := sp_index (rowAt p c.street) c.src (by omega)
  have hi1 : -1 ≤ idxP (rowAt p c.street) x ∧ idxP (rowAt p c.street) x ≤ 8 := by
    rw [idxP_of hx]; have := idx_lt hx; omega
  have hi2 : -1 ≤ idxP (rowAt p c.street) c.src ∧ idxP (rowAt p c.street) c.src ≤ 8 := by
    unfold idxP; split
    · rename_i h; have := idx_lt h; omega
    · omega
  generalize idxP (rowAt p c.street) x = ix at *
  generalize idxP (rowAt p c.street) c.src = iy at *
  have w1 : IntKind.i64.wrap (ix - iy) = ix - iy := wrap_i64 (by omega) (by omega)
  have w2 : IntKind.i64.wrap (ix - iy + 1) = ix - iy + 1 := wrap_i64 (by omega) (by omega)
  rw [e1] at sp
  generalize x.lt c.src = t1 at *
  generalize c.dst.lt x = t2 at *
  cases t1 <;> cases t2
  · rw [if_pos ⟨rfl, rfl⟩] at hRR
    subst hRR
    refine spec_body Tryz.func141 rfl (fun E hE => ?_); simp only [go_sem, Tryz.ntmps141]
    repeat' (first | (with_reducible (show runOps ..); first | (refine Qr rfl ?_; try intro K' hK; try simp only [go_sem, *]) | (refine Qi rfl rfl rfl rfl (fun hb K' hK => ?_) (fun hb => ?_) <;> (have hc := hb; try simp only [go_sem] at hc; simp only [go_sem, *]))) | (with_reducible (show Hold ..); first | refine Qh rfl ?_ | refine s_draw rfl Tryz.mixed (by kernel_rfl) ?_ | (refine s_cond rfl ⟨_, rfl, fun hb => ?_, fun hb => ?_⟩ <;> (have hc := hb; try simp only [go_sem] at hc)) | refine s_ret rfl ?_) | (with_reducible (show callA ..); first | (refine call_n (sp) ?_ ?_ ?_ ?_; (focus (simp only [go_sem, *]; done)); (focus (first | (simp; done) | (simp [go_sem]; done))); (focus (first | (simp; done) | (simp [go_sem]; done))); simp only [go_sem, *])) | ((with_reducible refine Qb ?_ ?_); focus kernel_rfl) | ((with_reducible refine And.intro ?_ ?_); focus omega) | (refine contA_of hK ?_; clear hK K'; simp only [go_sem, *]) | (simp only [thenA, inBlockA, go_sem, *]))
    all_goals first | contradiction | omega | skip
    (refine call_x [3] (si) (by simp only [go_sem, *]) (by first | exact .raw _) ?_; simp only [go_sem, *])
    repeat' (first | (with_reducible (show runOps ..); first | (refine Qr rfl ?_; try intro K' hK; try simp only [go_sem, *]) | (refine Qi rfl rfl rfl rfl (fun hb K' hK => ?_) (fun hb => ?_) <;> (have hc := hb; try simp only [go_sem] at hc; simp only [go_sem, *]))) | (with_reducible (show Hold ..); first | refine Qh rfl ?_ | refine s_draw rfl Tryz.mixed (by kernel_rfl) ?_ | (refine s_cond rfl ⟨_, rfl, fun hb => ?_, fun hb => ?_⟩ <;> (have hc := hb; try simp only [go_sem] at hc)) | refine s_ret rfl ?_) | (with_reducible (show callA ..); first | (refine call_s (sb1) ?_ ?_; (focus (simp only [go_sem, *]; done)); simp only [go_sem, *]) | (refine call_s (sb2) ?_ ?_; (focus (simp only [go_sem, *]; done)); simp only [go_sem, *]) | (refine call_s (si1) ?_ ?_; (focus (simp only [go_sem, *]; done)); simp only [go_sem, *]) | (refine call_s (si2) ?_ ?_; (focus (simp only [go_sem, *]; done)); simp only [go_sem, *])) | ((with_reducible refine Qb ?_ ?_); focus kernel_rfl) | ((with_reducible refine And.intro ?_ ?_); focus omega) | (refine contA_of hK ?_; clear hK K'; simp only [go_sem, *]) | (simp only [thenA, inBlockA, go_sem, *]))
    all_goals first | contradiction | omega | skip
    refine ⟨[.own 5 3 0 1], [], [5], ⟨by simp only [resOne, go_sem], trivial⟩, ?_⟩
    simp only [go_sem, *]
  · rw [if_neg (fun h => by cases h.2)] at hRR
    subst hRR
    refine spec_body Tryz.func141 rfl (fun E hE => ?_); simp only [go_sem, Tryz.ntmps141]
    repeat' (first | (with_reducible (show runOps ..); first | (refine Qr rfl ?_; try intro K' hK; try simp only [go_sem, *]) | (refine Qi rfl rfl rfl rfl (fun hb K' hK => ?_) (fun hb => ?_) <;> (have hc := hb; try simp only [go_sem] at hc; simp only [go_sem, *]))) | (with_reducible (show Hold ..); first | refine Qh rfl ?_ | refine s_draw rfl Tryz.mixed (by kernel_rfl) ?_ | (refine s_cond rfl ⟨_, rfl, fun hb => ?_, fun hb => ?_⟩ <;> (have hc := hb; try simp only [go_sem] at hc)) | refine s_ret rfl ?_) | (with_reducible (show callA ..); first | (refine call_n (sp) ?_ ?_ ?_ ?_; (focus (simp only [go_sem, *]; done)); (focus (first | (simp; done) | (simp [go_sem]; done))); (focus (first | (simp; done) | (simp [go_sem]; done))); simp only [go_sem, *])) | ((with_reducible refine Qb ?_ ?_); focus kernel_rfl) | ((with_reducible refine And.intro ?_ ?_); focus omega) | (refine contA_of hK ?_; clear hK K'; simp only [go_sem, *]) | (simp only [thenA, inBlockA, go_sem, *]))
    all_goals first | contradiction | omega | skip
    (refine call_x [3] (si) (by simp only [go_sem, *]) (by first | exact .raw _) ?_; simp only [go_sem, *])
    repeat' (first | (with_reducible (show runOps ..); first | (refine Qr rfl ?_; try intro K' hK; try simp only [go_sem, *]) | (refine Qi rfl rfl rfl rfl (fun hb K' hK => ?_) (fun hb => ?_) <;> (have hc := hb; try simp only [go_sem] at hc; simp only [go_sem, *]))) | (with_reducible (show Hold ..); first | refine Qh rfl ?_ | refine s_draw rfl Tryz.mixed (by kernel_rfl) ?_ | (refine s_cond rfl ⟨_, rfl, fun hb => ?_, fun hb => ?_⟩ <;> (have hc := hb; try simp only [go_sem] at hc)) | refine s_ret rfl ?_) | (with_reducible (show callA ..); first | (refine call_s (sb1) ?_ ?_; (focus (simp only [go_sem, *]; done)); simp only [go_sem, *]) | (refine call_s (sb2) ?_ ?_; (focus (simp only [go_sem, *]; done)); simp only [go_sem, *]) | (refine call_s (si1) ?_ ?_; (focus (simp only [go_sem, *]; done)); simp only [go_sem, *]) | (refine call_s (si2) ?_ ?_; (focus (simp only [go_sem, *]; done)); simp only [go_sem, *])) | ((with_reducible refine Qb ?_ ?_); focus kernel_rfl) | ((with_reducible refine And.intro ?_ ?_); focus omega) | (refine contA_of hK ?_; clear hK K'; simp only [go_sem, *]) | (simp only [thenA, inBlockA, go_sem, *]))
    all_goals first | contradiction | omega | skip
    refine ⟨[.own 5 3 0 1], [], [5], ⟨by simp only [resOne, go_sem], trivial⟩, ?_⟩
    simp only [go_sem, *]
  · rw [if_neg (fun h => by cases h.1)] at hRR
    subst hRR
    refine spec_body Tryz.func141 rfl (fun E hE => ?_); simp only [go_sem, Tryz.ntmps141]
    repeat' (first | (with_reducible (show runOps ..); first | (refine Qr rfl ?_; try intro K' hK; try simp only [go_sem, *]) | (refine Qi rfl rfl rfl rfl (fun hb K' hK => ?_) (fun hb => ?_) <;> (have hc := hb; try simp only [go_sem] at hc; simp only [go_sem, *]))) | (with_reducible (show Hold ..); first | refine Qh rfl ?_ | refine s_draw rfl Tryz.mixed (by kernel_rfl) ?_ | (refine s_cond rfl ⟨_, rfl, fun hb => ?_, fun hb => ?_⟩ <;> (have hc := hb; try simp only [go_sem] at hc)) | refine s_ret rfl ?_) | (with_reducible (show callA ..); first | (refine call_n (sp) ?_ ?_ ?_ ?_; (focus (simp only [go_sem, *]; done)); (focus (first | (simp; done) | (simp [go_sem]; done))); (focus (first | (simp; done) | (simp [go_sem]; done))); simp only [go_sem, *])) | ((with_reducible refine Qb ?_ ?_); focus kernel_rfl) | ((with_reducible refine And.intro ?_ ?_); focus omega) | (refine contA_of hK ?_; clear hK K'; simp only [go_sem, *]) | (simp only [thenA, inBlockA, go_sem, *]))
    all_goals first | contradiction | omega | skip
    (refine call_x [3] (si) (by simp only [go_sem, *]) (by first | exact .raw _) ?_; simp only [go_sem, *])
    repeat' (first | (with_reducible (show runOps ..); first | (refine Qr rfl ?_; try intro K' hK; try simp only [go_sem, *]) | (refine Qi rfl rfl rfl rfl (fun hb K' hK => ?_) (fun hb => ?_) <;> (have hc := hb; try simp only [go_sem] at hc; simp only [go_sem, *]))) | (with_reducible (show Hold ..); first | refine Qh rfl ?_ | refine s_draw rfl Tryz.mixed (by kernel_rfl) ?_ | (refine s_cond rfl ⟨_, rfl, fun hb => ?_, fun hb => ?_⟩ <;> (have hc := hb; try simp only [go_sem] at hc)) | refine s_ret rfl ?_) | (with_reducible (show callA ..); first | (refine call_s (sb1) ?_ ?_; (focus (simp only [go_sem, *]; done)); simp only [go_sem, *]) | (refine call_s (sb2) ?_ ?_; (focus (simp only [go_sem, *]; done)); simp only [go_sem, *]) | (refine call_s (si1) ?_ ?_; (focus (simp only [go_sem, *]; done)); simp only [go_sem, *]) | (refine call_s (si2) ?_ ?_; (focus (simp only [go_sem, *]; done)); simp only [go_sem, *])) | ((with_reducible refine Qb ?_ ?_); focus kernel_rfl) | ((with_reducible refine And.intro ?_ ?_); focus omega) | (refine contA_of hK ?_; clear hK K'; simp only [go_sem, *]) | (simp only [thenA, inBlockA, go_sem, *]))
    all_goals first | contradiction | omega | skip
    refine ⟨[.own 5 3 0 1], [], [5], ⟨by simp only [resOne, go_sem], trivial⟩, ?_⟩
    simp only [go_sem, *]
  · rw [if_neg (fun h => by cases h.1)] at hRR
    subst hRR
    refine spec_body Tryz.func141 rfl (fun E hE => ?_); simp only [go_sem, Tryz.ntmps141]
    repeat' (first | (with_reducible (show runOps ..); first | (refine Qr rfl ?_; try intro K' hK; try simp only [go_sem, *]) | (refine Qi rfl rfl rfl rfl (fun hb K' hK => ?_) (fun hb => ?_) <;> (have hc := hb; try simp only [go_sem] at hc; simp only [go_sem, *]))) | (with_reducible (show Hold ..); first | refine Qh rfl ?_ | refine s_draw rfl Tryz.mixed (by kernel_rfl) ?_ | (refine s_cond rfl ⟨_, rfl, fun hb => ?_, fun hb => ?_⟩ <;> (have hc := hb; try simp only [go_sem] at hc)) | refine s_ret rfl ?_) | (with_reducible (show callA ..); first | (refine call_n (sp) ?_ ?_ ?_ ?_; (focus (simp only [go_sem, *]; done)); (focus (first | (simp; done) | (simp [go_sem]; done))); (focus (first | (simp; done) | (simp [go_sem]; done))); simp only [go_sem, *])) | ((with_reducible refine Qb ?_ ?_); focus kernel_rfl) | ((with_reducible refine And.intro ?_ ?_); focus omega) | (refine contA_of hK ?_; clear hK K'; simp only [go_sem, *]) | (simp only [thenA, inBlockA, go_sem, *]))
    all_goals first | contradiction | omega | skip
    (refine call_x [3] (si) (by simp only [go_sem, *]) (by first | exact .raw _) ?_; simp only [go_sem, *])
    repeat' (first | (with_reducible (show runOps ..); first | (refine Qr rfl ?_; try intro K' hK; try simp only [go_sem, *]) | (refine Qi rfl rfl rfl rfl (fun hb K' hK => ?_) (fun hb => ?_) <;> (have hc := hb; try simp only [go_sem] at hc; simp only [go_sem, *]))) | (with_reducible (show Hold ..); first | refine Qh rfl ?_ | refine s_draw rfl Tryz.mixed (by kernel_rfl) ?_ | (refine s_cond rfl ⟨_, rfl, fun hb => ?_, fun hb => ?_⟩ <;> (have hc := hb; try simp only [go_sem] at hc)) | refine s_ret rfl ?_) | (with_reducible (show callA ..); first | (refine call_s (sb1) ?_ ?_; (focus (simp only [go_sem, *]; done)); simp only [go_sem, *]) | (refine call_s (sb2) ?_ ?_; (focus (simp only [go_sem, *]; done)); simp only [go_sem, *]) | (refine call_s (si1) ?_ ?_; (focus (simp only [go_sem, *]; done)); simp only [go_sem, *]) | (refine call_s (si2) ?_ ?_; (focus (simp only [go_sem, *]; done)); simp only [go_sem, *])) | ((with_reducible refine Qb ?_ ?_); focus kernel_rfl) | ((with_reducible refine And.intro ?_ ?_); focus omega) | (refine contA_of hK ?_; clear hK K'; simp only [go_sem, *]) | (simp only [thenA, inBlockA, go_sem, *]))
    all_goals first | contradiction | omega | skip
    refine ⟨[.own 5 3 0 1], [], [5], ⟨by simp only [resOne, go_sem], trivial⟩, ?_⟩
    simp only [go_sem, *]
theorem sp_to (p : Plan) (c : Change) (x : Plate) (v : Valid p) (f : Fit p c) (hx : x ∈ rowAt p c.street) : Spec Tryz.prog 141 [encPlan p, c.enc, x.enc] [] (encHouses (toP p c x)) [] := by
  rcases kinds f.kind with k | k | k | k | k | k | k
  · exact to_k1 p c x v f.street hx k
  · exact to_k2 p c x v f.street hx k
  · exact to_k3 p c x v f.street hx k
  · exact to_k4 p c x v f.street ⟨(f.other (.inl k)).1, (f.other (.inl k)).2.1⟩ hx k
  · exact to_k5 p c x v f.street hx k
  · exact to_k6 p c x v f.street hx k
  · exact to_k7 p c x v f.street hx k
end Go.Abs

namespace Go.Abs
open Go Go.Proofs
set_option maxRecDepth 10000
set_option maxHeartbeats 4000000
def mvs (p : Plan) (c : Change) (h : House) : List Move := (mv p c h).map fun z => ⟨h, z⟩
theorem flatMap_step {α β : Type} [Inhabited α] {l : List α} {g : α → List β} {i : Nat} (h : i < l.length) : (l.drop i).flatMap g = g (l.getD i default) ++ (l.drop (i + 1)).flatMap g := by
  rw [drop_cons h, List.flatMap_cons]
theorem sp_rMoves (p : Plan) (c : Change) (v : Valid p) (f : Fit p c) : Spec Tryz.prog 105 [encPlan p, c.enc] [] (.own 0 6 0 (movesOf p c).length) [.row 6 ((movesOf p c).map Move.enc)] := by
  have hR : ([] : List Move) ++ ((housesOf p).drop 0).flatMap (mvs p c) = movesOf p c := rfl
  have hRl := moves_len p c
  have hc := v.count
  have sh := sp_rHouses p (by have := v.len; omega) (fun l hl => by have := (v.rows l hl).len; omega) (by omega)
  have hin : ∀ z, z ∈ housesOf p → z.street = c.street → z.plate ∈ rowAt p c.street := fun z hz e => by rw [← e]; exact (mem_houses.1 hz).2.2
  generalize movesOf p c = R at *
  generalize housesOf p = hs at *
  refine spec_body Tryz.func105 rfl (fun E hE => ?_); simp only [go_sem, Tryz.ntmps105]
  repeat' (first | (with_reducible (show runOps ..); first | (refine Qr rfl ?_; try intro K' hK; try simp only [go_sem, *])) | (with_reducible (show Hold ..); first | refine Qh rfl ?_ | refine s_draw rfl Tryz.mixed (by kernel_rfl) ?_ | (refine s_cond rfl ⟨_, rfl, fun hb => ?_, fun hb => ?_⟩ <;> (have hc := hb; try simp only [go_sem] at hc)) | refine s_ret rfl ?_) | (with_reducible (show callA ..); first | (refine call_n (sh) ?_ ?_ ?_ ?_; (focus (simp only [go_sem, *]; done)); (focus (first | (simp; done) | (simp [go_sem]; done))); (focus (first | (simp; done) | (simp [go_sem]; done))); simp only [go_sem, *])) | ((with_reducible refine Qb ?_ ?_); focus kernel_rfl) | ((with_reducible refine And.intro ?_ ?_); focus omega) | (refine contA_of hK ?_; clear hK K'; simp only [go_sem, *]) | (simp only [thenA, inBlockA, go_sem, *]))
  refine s_loop rfl (fun zn zN zenv zAs => ∃ (i : Nat) (acc : List Move), zn = (hs.length) - i ∧ i ≤ (hs.length) ∧ (acc ++ (hs.drop i).flatMap (mvs p c) = R) ∧ zN = 58 ∧ zenv = [(7, iV i), (6, .own 2 3 0 hs.length), (5, .own 3 6 0 acc.length), (2, .ptr 0 0), (3, .ptr 1 0)] ∧ zAs = [.box [.list (p.map encStreet)], .box [iV c.kind, iV c.street, iV c.other, iV c.src.number, iV c.src.letter, iV c.dst.number, iV c.dst.letter], .row 3 (hs.map House.enc), .row 6 (acc.map Move.enc)]) (hs.length) ⟨[some 0, some 1, some 2, none], [], _, _, _, (by (simp only [Weak, go_sem, List.map_append, List.map_set, *] <;> (try simp (disch := omega) only [wrap_succ]) <;> (try simp) <;> (try omega))), 0, [], (by simp), (by simp), (by exact hR), rfl, rfl, rfl⟩ ?_; rintro _ _ _ _ ⟨i, acc, rfl, hi, hP, rfl, rfl, rfl⟩
  clear hR
  have hlen1 := congrArg List.length hP
  simp only [List.length_append] at hlen1
  by_cases hi : i < hs.length
  · rw [flatMap_step hi] at hP
    have hm := hin _ (getD_mem hi)
    have ml := mv_len_all p c (hs.getD i default)
    by_cases q : (hs.getD i default).street = c.street
    · have hS : acc ++ (((mv p c (hs.getD i default)).drop 0).map (fun z => (⟨hs.getD i default, z⟩ : Move)) ++ (hs.drop (i + 1)).flatMap (mvs p c)) = R := hP
      have st := sp_to p c (hs.getD i default).plate v f (hm q)
      have q' : ((hs.getD i default).street == c.street) = true := by rw [beq_iff_eq]; exact q
      unfold mv at hS ml
      rw [if_pos q] at hS ml
      clear q hP hm hin
      generalize hll : toP p c (hs.getD i default).plate = l at *
      repeat' (first | (with_reducible (show runOps ..); first | (refine Qr rfl ?_; try intro K' hK; try simp only [go_sem, *])) | (with_reducible (show Hold ..); first | refine Qh rfl ?_ | refine s_draw rfl Tryz.mixed (by kernel_rfl) ?_ | (refine s_cond rfl ⟨_, rfl, fun hb => ?_, fun hb => ?_⟩ <;> (have hc := hb; try simp only [go_sem] at hc)) | refine s_ret rfl ?_) | (with_reducible (show callA ..); first | (refine call_s (st) ?_ ?_; (focus (simp only [go_sem, *]; done)); simp only [go_sem, *])) | ((with_reducible refine Qb ?_ ?_); focus kernel_rfl) | ((with_reducible refine And.intro ?_ ?_); focus omega) | (refine contA_of hK ?_; clear hK K'; simp only [go_sem, *]) | (simp only [thenA, inBlockA, go_sem, *]))
      all_goals first | contradiction | omega | skip
      generalize hh : hs.getD i default = h at *
      refine s_loop rfl (fun zn zN zenv zAs => ∃ (j : Nat) (acc2 : List Move), zn = (l.length) - j ∧ j ≤ (l.length) ∧ (acc2 ++ ((l.drop j).map (fun z => (⟨h, z⟩ : Move)) ++ (hs.drop (i + 1)).flatMap (mvs p c)) = R) ∧ zN = 58 ∧ zenv = [(9, iV j), (8, encHouses l), (7, iV i), (6, .own 2 3 0 hs.length), (5, .own 3 6 0 acc2.length), (2, .ptr 0 0), (3, .ptr 1 0)] ∧ zAs = [.box [.list (p.map encStreet)], .box [iV c.kind, iV c.street, iV c.other, iV c.src.number, iV c.src.letter, iV c.dst.number, iV c.dst.letter], .row 3 (hs.map House.enc), .row 6 (acc2.map Move.enc)]) (l.length) ⟨[some 0, some 1, some 2, some 3], [], _, _, _, (by (simp only [Weak, go_sem, List.map_append, List.map_set, *] <;> (try simp (disch := omega) only [wrap_succ]) <;> (try simp) <;> (try omega))), 0, acc, (by simp), (by simp), (by exact hS), rfl, rfl, rfl⟩ ?_; rintro _ _ _ _ ⟨j, acc2, rfl, hj, hQ, rfl, rfl, rfl⟩
      have hlen2 := congrArg List.length hQ
      simp only [List.length_append, List.length_map, List.length_drop] at hlen2
      clear hlen1 hS
      by_cases hj : j < l.length
      · repeat' (first | (with_reducible (show runOps ..); first | (refine Qr rfl ?_; try intro K' hK; try simp only [go_sem, *])) | (with_reducible (show Hold ..); first | refine Qh rfl ?_ | refine s_draw rfl Tryz.mixed (by kernel_rfl) ?_ | (refine s_cond rfl ⟨_, rfl, fun hb => ?_, fun hb => ?_⟩ <;> (have hc := hb; try simp only [go_sem] at hc)) | refine s_ret rfl ?_) | ((with_reducible refine Qb ?_ ?_); focus kernel_rfl) | ((with_reducible refine And.intro ?_ ?_); focus omega) | (refine contA_of hK ?_; clear hK K'; simp only [go_sem, *]) | (simp only [thenA, inBlockA, go_sem, *]))
        all_goals first | contradiction | omega | skip
        refine ⟨_, (by omega), [some 0, some 1, some 2, some 5], [], _, _, _, (by (simp only [Weak, go_sem, List.map_append, List.map_set, *] <;> (try simp (disch := omega) only [wrap_succ]) <;> (try simp) <;> (try omega))), j + 1, acc2 ++ [⟨h, l.getD j default⟩], rfl, (by omega), (by rw [← hQ, drop_cons (i := j) (by assumption), List.map_cons]; simp), rfl, rfl, rfl⟩
      · rw [drop_end (by omega)] at hQ
        repeat' (first | (with_reducible (show runOps ..); first | (refine Qr rfl ?_; try intro K' hK; try simp only [go_sem, *])) | (with_reducible (show Hold ..); first | refine Qh rfl ?_ | refine s_draw rfl Tryz.mixed (by kernel_rfl) ?_ | (refine s_cond rfl ⟨_, rfl, fun hb => ?_, fun hb => ?_⟩ <;> (have hc := hb; try simp only [go_sem] at hc)) | refine s_ret rfl ?_) | ((with_reducible refine Qb ?_ ?_); focus kernel_rfl) | ((with_reducible refine And.intro ?_ ?_); focus omega) | (refine contA_of hK ?_; clear hK K'; simp only [go_sem, *]) | (simp only [thenA, inBlockA, go_sem, *]))
        all_goals first | contradiction | omega | skip
        refine ⟨_, (by omega), [some 0, some 1, some 2, some 3], [], _, _, _, (by (simp only [Weak, go_sem, List.map_append, List.map_set, *] <;> (try simp (disch := omega) only [wrap_succ]) <;> (try simp) <;> (try omega))), i + 1, acc2, rfl, (by omega), (by simpa using hQ), rfl, rfl, rfl⟩
    · have hS : acc ++ (([hs.getD i default].drop 0).map (fun z => (⟨hs.getD i default, z⟩ : Move)) ++ (hs.drop (i + 1)).flatMap (mvs p c)) = R := by
        rw [← hP]; unfold mvs mv; rw [if_neg q]; rfl
      have q' : ((hs.getD i default).street == c.street) = false := by rw [beq_eq_false_iff_ne]; exact q
      clear q hP hm hin ml
      repeat' (first | (with_reducible (show runOps ..); first | (refine Qr rfl ?_; try intro K' hK; try simp only [go_sem, *])) | (with_reducible (show Hold ..); first | refine Qh rfl ?_ | refine s_draw rfl Tryz.mixed (by kernel_rfl) ?_ | (refine s_cond rfl ⟨_, rfl, fun hb => ?_, fun hb => ?_⟩ <;> (have hc := hb; try simp only [go_sem] at hc)) | refine s_ret rfl ?_) | ((with_reducible refine Qb ?_ ?_); focus kernel_rfl) | ((with_reducible refine And.intro ?_ ?_); focus omega) | (refine contA_of hK ?_; clear hK K'; simp only [go_sem, *]) | (simp only [thenA, inBlockA, go_sem, *]))
      all_goals first | contradiction | omega | skip
      generalize hh : hs.getD i default = h at *
      refine s_loop rfl (fun zn zN zenv zAs => ∃ (j : Nat) (acc2 : List Move), zn = ([h].length) - j ∧ j ≤ ([h].length) ∧ (acc2 ++ (([h].drop j).map (fun z => (⟨h, z⟩ : Move)) ++ (hs.drop (i + 1)).flatMap (mvs p c)) = R) ∧ zN = 58 ∧ zenv = [(9, iV j), (8, encHouses [h]), (7, iV i), (6, .own 2 3 0 hs.length), (5, .own 3 6 0 acc2.length), (2, .ptr 0 0), (3, .ptr 1 0)] ∧ zAs = [.box [.list (p.map encStreet)], .box [iV c.kind, iV c.street, iV c.other, iV c.src.number, iV c.src.letter, iV c.dst.number, iV c.dst.letter], .row 3 (hs.map House.enc), .row 6 (acc2.map Move.enc)]) ([h].length) ⟨[some 0, some 1, some 2, some 3], [4], _, _, _, (by (simp only [Weak, go_sem, List.map_append, List.map_set, *] <;> (try simp (disch := omega) only [wrap_succ]) <;> (try simp) <;> (try omega))), 0, acc, (by simp), (by simp), (by exact hS), rfl, rfl, rfl⟩ ?_; rintro _ _ _ _ ⟨j, acc2, rfl, hj, hQ, rfl, rfl, rfl⟩
      generalize hll : [h] = l at *
      have ml : l.length ≤ 2 := by rw [← hll]; simp
      have hlen2 := congrArg List.length hQ
      simp only [List.length_append, List.length_map, List.length_drop] at hlen2
      clear hlen1 hS
      by_cases hj : j < l.length
      · repeat' (first | (with_reducible (show runOps ..); first | (refine Qr rfl ?_; try intro K' hK; try simp only [go_sem, *])) | (with_reducible (show Hold ..); first | refine Qh rfl ?_ | refine s_draw rfl Tryz.mixed (by kernel_rfl) ?_ | (refine s_cond rfl ⟨_, rfl, fun hb => ?_, fun hb => ?_⟩ <;> (have hc := hb; try simp only [go_sem] at hc)) | refine s_ret rfl ?_) | ((with_reducible refine Qb ?_ ?_); focus kernel_rfl) | ((with_reducible refine And.intro ?_ ?_); focus omega) | (refine contA_of hK ?_; clear hK K'; simp only [go_sem, *]) | (simp only [thenA, inBlockA, go_sem, *]))
        all_goals first | contradiction | omega | skip
        refine ⟨_, (by omega), [some 0, some 1, some 2, some 5], [], _, _, _, (by (simp only [Weak, go_sem, List.map_append, List.map_set, *] <;> (try simp (disch := omega) only [wrap_succ]) <;> (try simp) <;> (try omega))), j + 1, acc2 ++ [⟨h, l.getD j default⟩], rfl, (by omega), (by rw [← hQ, drop_cons (i := j) (by assumption), List.map_cons]; simp), rfl, rfl, rfl⟩
      · rw [drop_end (by omega)] at hQ
        repeat' (first | (with_reducible (show runOps ..); first | (refine Qr rfl ?_; try intro K' hK; try simp only [go_sem, *])) | (with_reducible (show Hold ..); first | refine Qh rfl ?_ | refine s_draw rfl Tryz.mixed (by kernel_rfl) ?_ | (refine s_cond rfl ⟨_, rfl, fun hb => ?_, fun hb => ?_⟩ <;> (have hc := hb; try simp only [go_sem] at hc)) | refine s_ret rfl ?_) | ((with_reducible refine Qb ?_ ?_); focus kernel_rfl) | ((with_reducible refine And.intro ?_ ?_); focus omega) | (refine contA_of hK ?_; clear hK K'; simp only [go_sem, *]) | (simp only [thenA, inBlockA, go_sem, *]))
        all_goals first | contradiction | omega | skip
        refine ⟨_, (by omega), [some 0, some 1, some 2, some 3], [], _, _, _, (by (simp only [Weak, go_sem, List.map_append, List.map_set, *] <;> (try simp (disch := omega) only [wrap_succ]) <;> (try simp) <;> (try omega))), i + 1, acc2, rfl, (by omega), (by simpa using hQ), rfl, rfl, rfl⟩
  · rw [drop_end (by omega), List.flatMap_nil, List.append_nil] at hP
    repeat' (first | (with_reducible (show runOps ..); first | (refine Qr rfl ?_; try intro K' hK; try simp only [go_sem, *])) | (with_reducible (show Hold ..); first | refine Qh rfl ?_ | refine s_draw rfl Tryz.mixed (by kernel_rfl) ?_ | (refine s_cond rfl ⟨_, rfl, fun hb => ?_, fun hb => ?_⟩ <;> (have hc := hb; try simp only [go_sem] at hc)) | refine s_ret rfl ?_) | ((with_reducible refine Qb ?_ ?_); focus kernel_rfl) | ((with_reducible refine And.intro ?_ ?_); focus omega) | (refine contA_of hK ?_; clear hK K'; simp only [go_sem, *]) | (simp only [thenA, inBlockA, go_sem, *]))
    all_goals first | contradiction | omega | skip
    refine ⟨[_], [some 3], [], ⟨rfl, trivial⟩, ?_⟩
    simp only [go_sem, hP, *]
end Go.Abs

namespace Go.Abs
open Go Go.Proofs
set_option maxRecDepth 10000
set_option maxHeartbeats 4000000
theorem sp_rLaid {n : Nat} (l : List House) (hn : 0 < n ∧ n ≤ 3) (hst : ∀ z, z ∈ l → 0 ≤ z.street ∧ z.street < n) (hl : l.length ≤ 4294967296) : Spec Tryz.prog 127 [.list (l.map House.enc), iV n] [] (encPlan (laid l n)) [] := by
  rcases (by omega : n = 1 ∨ n = 2 ∨ n = 3) with rfl | rfl | rfl
  · exact sp_rLaid1 l hst hl
  · exact sp_rLaid2 l hst hl
  · exact sp_rLaid3 l hst hl
theorem sp_rMade (p : Plan) (c : Change) (v : Valid p) (f : Fit p c) : Spec Tryz.prog 91 [encPlan p, c.enc] [] (encPlan (afterOf p c)) [] := by
  have hst := fun z (hz : z ∈ flatMv p c) => flatMv_in v f hz
  have hml := moves_len p c
  have hd := moves_dst p c
  have hcn := v.count
  have hdl : (flatMv p c).length = (movesOf p c).length := by rw [← hd, List.length_map]
  have sl := sp_rLaid (n := p.length) (flatMv p c) ⟨v.ne, v.len⟩ (fun z hz => ⟨(hst z hz).1, (hst z hz).2.1⟩) (by omega)
  have sm := sp_rMoves p c v f
  have e : laid (flatMv p c) p.length = afterOf p c := rfl
  rw [e] at sl
  clear e
  generalize afterOf p c = Q at *
  have h0 : ((movesOf p c).take 0).map Move.dst = [] := by simp
  have hE0 : ((movesOf p c).take (movesOf p c).length).map Move.dst = flatMv p c := by rw [List.take_length, hd]
  have hvl := v.len
  have hMb : (movesOf p c).length ≤ 48 := by omega
  have hLb : (flatMv p c).length ≤ 48 := by omega
  generalize movesOf p c = M at *
  generalize flatMv p c = L at *
  clear hst hd hdl
  refine spec_body Tryz.func91 rfl (fun E hE => ?_); simp only [go_sem, Tryz.ntmps91]
  repeat' (first | (with_reducible (show runOps ..); first | (refine Qr rfl ?_; try intro K' hK; try simp only [go_sem, *])) | (with_reducible (show Hold ..); first | refine Qh rfl ?_ | (refine s_cond rfl ⟨_, rfl, fun hb => ?_, fun hb => ?_⟩ <;> (have hc := hb; try simp only [go_sem] at hc)) | refine s_ret rfl ?_) | (with_reducible (show callA ..); first | (refine call_n (sm) ?_ ?_ ?_ ?_; (focus (simp only [go_sem, *]; done)); (focus (first | (simp; done) | (simp [go_sem]; done))); (focus (first | (simp; done) | (simp [go_sem]; done))); simp only [go_sem, *])) | ((with_reducible refine Qb ?_ ?_); focus kernel_rfl) | ((with_reducible refine And.intro ?_ ?_); focus omega) | (refine contA_of hK ?_; clear hK K'; simp only [go_sem, *]) | (simp only [thenA, inBlockA, go_sem, *]))
  refine s_loop rfl (fun zn zN zenv zAs => ∃ (i : Nat) (acc : List House), zn = (M.length) - i ∧ i ≤ (M.length) ∧ (acc ++ (M.drop i).map Move.dst = L) ∧ zN = 30 ∧ zenv = [(7, iV i), (6, .own 3 6 0 M.length), (5, .own 4 3 0 acc.length), (2, .ptr 0 0), (3, .ptr 1 0), (4, .ptr 2 0)] ∧ zAs = [.box [.list (p.map encStreet)], .box [iV c.kind, iV c.street, iV c.other, iV c.src.number, iV c.src.letter, iV c.dst.number, iV c.dst.letter], .box [nilV], .row 6 (M.map Move.enc), .row 3 (acc.map House.enc)]) (M.length) ⟨[some 0, some 1, some 2, some 3, none], [], _, _, _, (by (simp only [Weak, go_sem, List.map_append, List.map_set, *] <;> (try simp (disch := omega) only [wrap_succ]) <;> (try simp) <;> (try omega))), 0, [], (by simp), (by simp), (by rw [← hE0, List.take_length]; rfl), rfl, rfl, rfl⟩ ?_; rintro _ _ _ _ ⟨i, acc, rfl, hi, hP, rfl, rfl, rfl⟩
  have hlen1 := congrArg List.length hP
  simp only [List.length_append, List.length_map, List.length_drop] at hlen1
  by_cases hi : i < M.length
  · repeat' (first | (with_reducible (show runOps ..); first | (refine Qr rfl ?_; try intro K' hK; try simp only [go_sem, *])) | (with_reducible (show Hold ..); first | refine Qh rfl ?_ | (refine s_cond rfl ⟨_, rfl, fun hb => ?_, fun hb => ?_⟩ <;> (have hc := hb; try simp only [go_sem] at hc)) | refine s_ret rfl ?_) | ((with_reducible refine Qb ?_ ?_); focus kernel_rfl) | ((with_reducible refine And.intro ?_ ?_); focus omega) | (refine contA_of hK ?_; clear hK K'; simp only [go_sem, *]) | (simp only [thenA, inBlockA, go_sem, *]))
    all_goals first | contradiction | omega | skip
    refine ⟨_, (by omega), [some 0, some 1, some 2, some 3, some 6], [], _, _, _, (by (simp only [Weak, go_sem, List.map_append, List.map_set, *] <;> (try simp (disch := omega) only [wrap_succ]) <;> (try simp) <;> (try omega))), i + 1, acc ++ [(M.getD i default).dst], rfl, (by omega), (by rw [← hP, drop_cons (i := i) (by assumption), List.map_cons]; simp), rfl, rfl, rfl⟩
  · rw [drop_end (by omega), List.map_nil, List.append_nil] at hP
    subst hP
    repeat' (first | (with_reducible (show runOps ..); first | (refine Qr rfl ?_; try intro K' hK; try simp only [go_sem, *])) | (with_reducible (show Hold ..); first | refine Qh rfl ?_ | (refine s_cond rfl ⟨_, rfl, fun hb => ?_, fun hb => ?_⟩ <;> (have hc := hb; try simp only [go_sem] at hc)) | refine s_ret rfl ?_) | ((with_reducible refine Qb ?_ ?_); focus kernel_rfl) | ((with_reducible refine And.intro ?_ ?_); focus omega) | (refine contA_of hK ?_; clear hK K'; simp only [go_sem, *]) | (simp only [thenA, inBlockA, go_sem, *]))
    all_goals first | contradiction | omega | skip
    (refine call_fz (sl) (by simp only [go_sem, *]; done) rfl (by simp only [go_sem]; done) (by simp) (by simp) ?_; simp only [go_sem, deads, *])
    repeat' (first | (with_reducible (show runOps ..); first | (refine Qr rfl ?_; try intro K' hK; try simp only [go_sem, *])) | (with_reducible (show Hold ..); first | refine Qh rfl ?_ | (refine s_cond rfl ⟨_, rfl, fun hb => ?_, fun hb => ?_⟩ <;> (have hc := hb; try simp only [go_sem] at hc)) | refine s_ret rfl ?_) | ((with_reducible refine Qb ?_ ?_); focus kernel_rfl) | ((with_reducible refine And.intro ?_ ?_); focus omega) | (refine contA_of hK ?_; clear hK K'; simp only [go_sem, *]) | (simp only [thenA, inBlockA, go_sem, *]))
    all_goals first | contradiction | omega | skip
    refine ⟨[encPlan Q], [], [], ⟨(by simp only [resOne, go_sem]), trivial⟩, ?_⟩; simp only [go_sem, *]
end Go.Abs

namespace Go.Abs
open Go Go.Proofs
set_option maxRecDepth 10000
set_option maxHeartbeats 4000000
theorem sp_rcheck (p : Plan) (c : Change) (hl : p.length ≤ 4294967296) : Spec Tryz.prog 90 [encPlan p, c.enc] [] (iV (errOf p c)) [] := by
  have s1 := sp_rCheck p hl
  unfold errOf
  by_cases q : check p = 0
  · have s2 := sp_Can p c ((check_zero p).1 q)
    rw [if_pos q]
    rw [q] at s1
    clear q
    generalize can p c = R at *
    refine spec_body Tryz.func90 rfl (fun E hE => ?_); simp only [go_sem, Tryz.ntmps90]
    repeat' (first | (with_reducible (show runOps ..); first | (refine Qr rfl ?_; try intro K' hK; try simp only [go_sem, *])) | (with_reducible (show Hold ..); first | refine Qh rfl ?_ | (refine s_cond rfl ⟨_, rfl, fun hb => ?_, fun hb => ?_⟩ <;> (have hc := hb; try simp only [go_sem] at hc)) | refine s_ret rfl ?_) | (with_reducible (show callA ..); first | ((first | refine call_s (s1) ?_ ?_ | refine call_s (s2) ?_ ?_); (focus (simp only [go_sem, *]; done)); simp only [go_sem, *])) | ((with_reducible refine Qb ?_ ?_); focus kernel_rfl) | ((with_reducible refine And.intro ?_ ?_); focus omega) | (refine contA_of hK ?_; clear hK K'; simp only [go_sem, *]) | (simp only [thenA, inBlockA, go_sem, *]))
    all_goals first | contradiction | omega | skip
    (refine ⟨[_], [], [], ⟨rfl, trivial⟩, ?_⟩; simp only [go_sem, *])
  · rw [if_neg q]
    have q' : (check p != 0) = true := by simpa using q
    clear q
    generalize check p = R at *
    refine spec_body Tryz.func90 rfl (fun E hE => ?_); simp only [go_sem, Tryz.ntmps90]
    repeat' (first | (with_reducible (show runOps ..); first | (refine Qr rfl ?_; try intro K' hK; try simp only [go_sem, *])) | (with_reducible (show Hold ..); first | refine Qh rfl ?_ | (refine s_cond rfl ⟨_, rfl, fun hb => ?_, fun hb => ?_⟩ <;> (have hc := hb; try simp only [go_sem] at hc)) | refine s_ret rfl ?_) | (with_reducible (show callA ..); first | (refine call_s (s1) ?_ ?_; (focus (simp only [go_sem, *]; done)); simp only [go_sem, *])) | ((with_reducible refine Qb ?_ ?_); focus kernel_rfl) | ((with_reducible refine And.intro ?_ ?_); focus omega) | (refine contA_of hK ?_; clear hK K'; simp only [go_sem, *]) | (simp only [thenA, inBlockA, go_sem, *]))
    all_goals first | contradiction | omega | skip
    (refine ⟨[_], [], [], ⟨rfl, trivial⟩, ?_⟩; simp only [go_sem, *])
theorem sp_rAfter_ok (p : Plan) (c : Change) (v : Valid p) (f : Fit p c) (h : errOf p c = 0) : Spec Tryz.prog 26 [encPlan p, c.enc] [] (.tup [encPlan (afterOf p c), iV 0]) [] := by
  have s1 := sp_rcheck p c (by have := v.len; omega)
  have s2 := sp_rMade p c v f
  rw [h] at s1
  clear h
  generalize afterOf p c = Q at *
  refine spec_body Tryz.func26 rfl (fun E hE => ?_); simp only [go_sem, Tryz.ntmps26]
  repeat' (first | (with_reducible (show runOps ..); first | (refine Qr rfl ?_; try intro K' hK; try simp only [go_sem, *])) | (with_reducible (show Hold ..); first | refine Qh rfl ?_ | (refine s_cond rfl ⟨_, rfl, fun hb => ?_, fun hb => ?_⟩ <;> (have hc := hb; try simp only [go_sem] at hc)) | refine s_ret rfl ?_) | (with_reducible (show callA ..); first | ((first | refine call_s (s1) ?_ ?_ | refine call_s (s2) ?_ ?_); (focus (simp only [go_sem, *]; done)); simp only [go_sem, *])) | ((with_reducible refine Qb ?_ ?_); focus kernel_rfl) | ((with_reducible refine And.intro ?_ ?_); focus omega) | (refine contA_of hK ?_; clear hK K'; simp only [go_sem, *]) | (simp only [thenA, inBlockA, go_sem, *]))
  all_goals first | contradiction | omega | skip
  refine ⟨[encPlan Q, iV 0], [], [], ⟨(by simp only [resOne, go_sem]), rfl, trivial⟩, ?_⟩; simp only [go_sem, *]
theorem sp_rAfter_err (p : Plan) (c : Change) (hl : p.length ≤ 4294967296) (h : errOf p c ≠ 0) : Spec Tryz.prog 26 [encPlan p, c.enc] [] (.tup [encPlan [], iV (errOf p c)]) [] := by
  have s1 := sp_rcheck p c hl
  have q' : (errOf p c != 0) = true := by simpa using h
  clear h
  generalize errOf p c = R at *
  refine spec_body Tryz.func26 rfl (fun E hE => ?_); simp only [go_sem, Tryz.ntmps26]
  repeat' (first | (with_reducible (show runOps ..); first | (refine Qr rfl ?_; try intro K' hK; try simp only [go_sem, *])) | (with_reducible (show Hold ..); first | refine Qh rfl ?_ | (refine s_cond rfl ⟨_, rfl, fun hb => ?_, fun hb => ?_⟩ <;> (have hc := hb; try simp only [go_sem] at hc)) | refine s_ret rfl ?_) | (with_reducible (show callA ..); first | (refine call_s (s1) ?_ ?_; (focus (simp only [go_sem, *]; done)); simp only [go_sem, *])) | ((with_reducible refine Qb ?_ ?_); focus kernel_rfl) | ((with_reducible refine And.intro ?_ ?_); focus omega) | (refine contA_of hK ?_; clear hK K'; simp only [go_sem, *]) | (simp only [thenA, inBlockA, go_sem, *]))
  all_goals first | contradiction | omega | skip
  refine ⟨[.agg [nilV], iV R], [], [], ⟨(by simp only [resOne, go_sem]), rfl, trivial⟩, ?_⟩; simp only [go_sem, *]
end Go.Abs

namespace Go.Abs
open Go Go.Proofs
set_option maxRecDepth 10000
set_option maxHeartbeats 4000000
theorem sp_DupPlan (p : Plan) (h1 : p.length ≤ 1048576) (h2 : ∀ l, l ∈ p → l.length ≤ 1048576) : Spec Tryz.prog 24 [encPlan p] [] (encPlan p) [] := by
  refine spec_body Tryz.func24 rfl (fun E hE => ?_); simp only [go_sem, Tryz.ntmps24]
  repeat' (first | (with_reducible (show runOps ..); first | (refine Qr rfl ?_; try intro K' hK; try simp only [go_sem, *])) | (with_reducible (show Hold ..); first | refine Qh rfl ?_ | refine s_draw rfl Tryz.mixed (by kernel_rfl) ?_ | (refine s_cond rfl ⟨_, rfl, fun hb => ?_, fun hb => ?_⟩ <;> (have hc := hb; try simp only [go_sem] at hc)) | refine s_ret rfl ?_) | ((with_reducible refine Qb ?_ ?_); focus kernel_rfl) | ((with_reducible refine And.intro ?_ ?_); focus omega) | (refine contA_of hK ?_; clear hK K'; simp only [go_sem, *]) | (simp only [thenA, inBlockA, go_sem, *]))
  refine s_loop rfl (fun zn zN zenv zAs => ∃ (i : Nat), zn = (p.length) - i ∧ i ≤ (p.length) ∧ (NoP i) ∧ zN = 25 ∧ zenv = [(4, iV i), (1, .ptr 0 0), (2, .ptr 1 0), (3, .ptr 2 0)] ∧ zAs = [.box [.list (p.map encStreet)], .box [nilV], .box [.own 3 1 0 i], .box ((p.take i).map encStreet)]) (p.length) ⟨[some 0, some 1, some 2, none], [], _, _, _, (by (simp only [Weak, go_sem, List.map_append, List.map_set, *] <;> (try simp (disch := omega) only [wrap_succ]) <;> (try simp) <;> (try omega))), 0, (by simp), (by simp), (by trivial), rfl, rfl, rfl⟩ ?_; rintro _ _ _ _ ⟨i, rfl, hi, hP, rfl, rfl, rfl⟩
  by_cases hi2 : i < p.length
  · have hr := h2 _ (getD_mem hi2)
    have e := take_succ_getD (l := p) (i := i) hi2
    repeat' (first | (with_reducible (show runOps ..); first | (refine Qr rfl ?_; try intro K' hK; try simp only [go_sem, *])) | (with_reducible (show Hold ..); first | refine Qh rfl ?_ | refine s_draw rfl Tryz.mixed (by kernel_rfl) ?_ | (refine s_cond rfl ⟨_, rfl, fun hb => ?_, fun hb => ?_⟩ <;> (have hc := hb; try simp only [go_sem] at hc)) | refine s_ret rfl ?_) | (with_reducible (show (∀ _ : AV, _ → _) ∧ _); refine And.intro ?_ ?_; (focus (intro y hy; first | (obtain ⟨z, _, rfl⟩ := List.mem_map.1 (hy); simp [go_sem]; done) | (obtain ⟨z, _, rfl⟩ := List.mem_map.1 (List.mem_of_mem_take hy); simp [go_sem]; done) | (obtain ⟨z, _, rfl⟩ := List.mem_map.1 (List.mem_of_mem_drop hy); simp [go_sem]; done) | (obtain ⟨z, _, rfl⟩ := List.mem_map.1 (List.mem_of_mem_drop (List.mem_of_mem_take hy)); simp [go_sem]; done)))) | ((with_reducible refine Qb ?_ ?_); focus kernel_rfl) | ((with_reducible refine And.intro ?_ ?_); focus omega) | (refine contA_of hK ?_; clear hK K'; simp only [go_sem, *]) | (simp only [thenA, inBlockA, go_sem, *]))
    all_goals first | contradiction | omega | skip
    refine ⟨_, (by omega), [some 0, some 1, some 2, some 7], [5], _, _, _, (by (simp only [Weak, go_sem, List.map_append, List.map_set, *] <;> (try simp (disch := omega) only [wrap_succ]) <;> (try simp) <;> (try omega))), i + 1, rfl, (by omega), (by trivial), rfl, rfl, rfl⟩
  · have e : p.take i = p := List.take_of_length_le (by omega)
    repeat' (first | (with_reducible (show runOps ..); first | (refine Qr rfl ?_; try intro K' hK; try simp only [go_sem, *])) | (with_reducible (show Hold ..); first | refine Qh rfl ?_ | refine s_draw rfl Tryz.mixed (by kernel_rfl) ?_ | (refine s_cond rfl ⟨_, rfl, fun hb => ?_, fun hb => ?_⟩ <;> (have hc := hb; try simp only [go_sem] at hc)) | refine s_ret rfl ?_) | ((with_reducible refine Qb ?_ ?_); focus kernel_rfl) | ((with_reducible refine And.intro ?_ ?_); focus omega) | (refine contA_of hK ?_; clear hK K'; simp only [go_sem, *]) | (simp only [thenA, inBlockA, go_sem, *]))
    all_goals first | contradiction | omega | skip
    refine ⟨[.agg [.own 3 1 0 i]], [], [3], ⟨by simp only [resOne, go_sem], trivial⟩, ?_⟩
    simp only [go_sem, *]
    simp
    omega
end Go.Abs

namespace Go.Abs
open Go Go.Proofs
set_option maxRecDepth 10000
set_option maxHeartbeats 4000000
def srcOf (l : List Move) (h : House) : Option House := (l.find? fun m => decide (m.dst = h)).map Move.src
def zeroHouse : House := ⟨0, zeroPlate⟩
end Go.Abs

namespace Go.Abs
open Go Go.Proofs
set_option maxRecDepth 10000
set_option maxHeartbeats 4000000
end Go.Abs

namespace Go.Abs
open Go Go.Proofs
set_option maxRecDepth 10000
set_option maxHeartbeats 4000000
def dstOf (l : List Move) (h : House) : List House := (l.filter fun m => decide (m.src = h)).map Move.dst
end Go.Abs

namespace Go.Abs
open Go Go.Proofs
set_option maxRecDepth 10000
theorem sp_rAfter (p : Plan) (c : Change) (hp : p.length ≤ 4294967296) :
    Spec Tryz.prog 26 [encPlan p, c.enc] [] (.tup [encPlan (if errOf p c = 0 then afterOf p c else []), iV (errOf p c)]) [] := by
  by_cases e : errOf p c = 0
  · obtain ⟨v, f⟩ := err_zero e
    have s := sp_rAfter_ok p c v f e
    rw [if_pos e, e]; exact s
  · have s := sp_rAfter_err p c hp e
    rw [if_neg e]; exact s
end Go.Abs

namespace Go.Abs
open Go Go.Proofs
set_option maxRecDepth 10000
set_option maxHeartbeats 4000000
theorem wide_no {p : Plan} (h : wideB p = false) : p.length ≤ 20 ∧ ∀ l, l ∈ p → l.length ≤ 20 := by
  unfold wideB wideL at h
  rw [Bool.or_eq_false_iff, List.any_eq_false] at h
  refine ⟨by simpa using h.1, fun l hl => ?_⟩
  have := h.2 l hl
  simpa using this
def aftX (p : Plan) (c : Change) : Plan := if errOf p c = 0 then afterOf p c else []
theorem aftX_small (p : Plan) (c : Change) : (aftX p c).length ≤ 3 ∧ ∀ l, l ∈ aftX p c → l.length ≤ 8 := by
  unfold aftX
  split
  · rename_i e
    obtain ⟨v, f⟩ := err_zero e
    have w := valid_after v f
    exact ⟨w.len, fun l hl => (w.rows l hl).len⟩
  · exact ⟨by simp, fun l hl => by cases hl⟩
theorem sp_StreetPlans (p : Plan) (c : Change) (nums : List Int) (hb : PlanB 1048576 p) (h : nums.length ≤ 1048576) : Spec Tryz.prog 3 [encPlan p, c.enc, encInts nums] [] (bV true) [] := by
  have sw := sp_walking
  have s0 := sp_wide p (by have := hb.len; omega) (wideB p) rfl
  clear hb
  by_cases hwd : wideB p = true
  · rw [hwd] at s0
    clear hwd
    refine spec_body Tryz.func3 rfl (fun E hE => ?_); simp only [go_sem, Tryz.ntmps3]
    repeat' (first | (with_reducible (show runOps ..); first | (refine Qr rfl ?_; try intro K' hK; try simp only [go_sem, *]) | (refine Qi rfl rfl rfl rfl (fun hb K' hK => ?_) (fun hb => ?_) <;> (have hc := hb; try simp only [go_sem] at hc; simp only [go_sem, *]))) | (with_reducible (show Hold ..); first | refine Qh rfl ?_ | refine s_draw rfl Tryz.mixed (by kernel_rfl) ?_ | (refine s_cond rfl ⟨_, rfl, fun hb => ?_, fun hb => ?_⟩ <;> (have hc := hb; try simp only [go_sem] at hc)) | refine s_ret rfl ?_) | (with_reducible (show callA ..); first | ((first | refine call_s (s0) ?_ ?_ | refine call_s (sw) ?_ ?_); (focus (simp only [go_sem, *]; done)); simp only [go_sem, *])) | ((with_reducible refine Qb ?_ ?_); focus kernel_rfl) | ((with_reducible refine And.intro ?_ ?_); focus omega) | (refine contA_of hK ?_; clear hK K'; simp only [go_sem, *]) | (simp only [thenA, inBlockA, go_sem, *]))
    all_goals first | contradiction | skip
    (refine ⟨[_], [], [], ⟨rfl, trivial⟩, ?_⟩; simp only [go_sem, *])
  · have hwd : wideB p = false := by simpa using hwd
    rw [hwd] at s0
    obtain ⟨q1, q2⟩ := wide_no hwd
    clear hwd
    have s1 := sp_NewDice nums
    have s2 := sp_PlanOf (newDice nums) 8 (show nums.length ≤ 4294967296 by omega) (by omega)
    have v := planOf_ok (d := newDice nums) (houses := 8) (by omega)
    have hl : (planOf (newDice nums) 8).2.list.length ≤ 4294967296 := by rw [planOf_list]; show nums.length ≤ _; omega
    generalize planOf (newDice nums) 8 = P at *
    obtain ⟨m, d1⟩ := P
    simp only at s2 v hl
    have s3 := sp_ChangeOf d1 m hl v
    have hl2 : (changeOf d1 m).2.list.length ≤ 4294967296 := by rw [changeOf_list]; exact hl
    generalize changeOf d1 m = C at *
    obtain ⟨c1, d2⟩ := C
    simp only at s3 hl2
    have s4 := sp_ChangeOf d2 m hl2 v
    have hl3 : (changeOf d2 m).2.list.length ≤ 4294967296 := by rw [changeOf_list]; exact hl2
    generalize changeOf d2 m = C at *
    obtain ⟨c2, d3⟩ := C
    simp only at s4 hl3
    have s5 := sp_ChangeOf d3 m hl3 v
    generalize changeOf d3 m = C at *
    obtain ⟨c3, d4⟩ := C
    simp only at s5
    have hm1 : m.length ≤ 20 ∧ ∀ l, l ∈ m → l.length ≤ 20 := ⟨by have := v.len; omega, fun l hl => by have := (v.rows l hl).len; omega⟩
    obtain ⟨PS, hPS⟩ : ∃ PS : List Plan, PS = [p, m, m, m, p] := ⟨_, rfl⟩
    obtain ⟨CS, hCS⟩ : ∃ CS : List Change, CS = [c, c1, c2, c, c3] := ⟨_, rfl⟩
    have hPl : PS.length = 5 := by rw [hPS]; rfl
    have hCl : CS.length = 5 := by rw [hCS]; rfl
    have hPa : ∀ x, x ∈ PS → x.length ≤ 20 ∧ ∀ l, l ∈ x → l.length ≤ 20 := fun x hx => by
      rw [hPS] at hx
      simp only [List.mem_cons, List.not_mem_nil, or_false] at hx
      rcases hx with rfl | rfl | rfl | rfl | rfl
      · exact ⟨q1, q2⟩
      · exact hm1
      · exact hm1
      · exact hm1
      · exact ⟨q1, q2⟩
    clear q1 q2 hm1 h hl hl2 hl3 v
    refine spec_body Tryz.func3 rfl (fun E hE => ?_); simp only [go_sem, Tryz.ntmps3]
    repeat' (first | (with_reducible (show runOps ..); first | (refine Qr rfl ?_; try intro K' hK; try simp only [go_sem, *]) | (refine Qi rfl rfl rfl rfl (fun hb K' hK => ?_) (fun hb => ?_) <;> (have hc := hb; try simp only [go_sem] at hc; simp only [go_sem, *]))) | (with_reducible (show Hold ..); first | refine Qh rfl ?_ | refine s_draw rfl Tryz.mixed (by kernel_rfl) ?_ | (refine s_cond rfl ⟨_, rfl, fun hb => ?_, fun hb => ?_⟩ <;> (have hc := hb; try simp only [go_sem] at hc)) | refine s_ret rfl ?_) | (with_reducible (show callA ..); first | (refine call_s (s0) ?_ ?_; (focus (simp only [go_sem, *]; done)); simp only [go_sem, *]) | (refine call_n (s1) ?_ ?_ ?_ ?_; (focus (simp only [go_sem, *]; done)); (focus (first | (simp; done) | (simp [go_sem]; done))); (focus (first | (simp; done) | (simp [go_sem]; done))); simp only [go_sem, *]) | (refine call_of [2] [] (s2) (by simp) ?_ ?_ (by simp) (.inl rfl) ?_ ?_ ?_; (focus (simp only [go_sem, *]; done)); (focus (simp only [go_sem, *]; done)); (focus (first | (simp; done) | (simp [go_sem]; done))); (focus (first | (simp; done) | (simp [go_sem]; done))); simp only [go_sem, *]) | (refine call_of [2] [] (s3) (by simp) ?_ ?_ (by simp) (.inl rfl) ?_ ?_ ?_; (focus (simp only [go_sem, *]; done)); (focus (simp only [go_sem, *]; done)); (focus (first | (simp; done) | (simp [go_sem]; done))); (focus (first | (simp; done) | (simp [go_sem]; done))); simp only [go_sem, *]) | (refine call_of [2] [] (s4) (by simp) ?_ ?_ (by simp) (.inl rfl) ?_ ?_ ?_; (focus (simp only [go_sem, *]; done)); (focus (simp only [go_sem, *]; done)); (focus (first | (simp; done) | (simp [go_sem]; done))); (focus (first | (simp; done) | (simp [go_sem]; done))); simp only [go_sem, *]) | (refine call_of [2] [] (s5) (by simp) ?_ ?_ (by simp) (.inl rfl) ?_ ?_ ?_; (focus (simp only [go_sem, *]; done)); (focus (simp only [go_sem, *]; done)); (focus (first | (simp; done) | (simp [go_sem]; done))); (focus (first | (simp; done) | (simp [go_sem]; done))); simp only [go_sem, *])) | ((with_reducible refine Qb ?_ ?_); focus kernel_rfl) | ((with_reducible refine And.intro ?_ ?_); focus omega) | (refine contA_of hK ?_; clear hK K'; simp only [go_sem, *]) | (simp only [thenA, inBlockA, go_sem, *]))
    all_goals first | contradiction | skip
    clear s0 s1 s2 s3 s4 s5
    refine s_loop rfl (fun zn zN zenv zAs => ∃ (i : Nat), zn = (5) - i ∧ i ≤ (5) ∧ (NoP i) ∧ zN = 103 ∧ zenv = [(11, iV i), (10, .list (CS.map Change.enc)), (9, .list (PS.map encPlan))] ∧ zAs = []) (5) ⟨[], [4, 5], _, _, _, (by (simp only [Weak, go_sem, List.map_append, List.map_set, *] <;> (try simp (disch := omega) only [wrap_succ]) <;> (try simp) <;> (try omega))), 0, (by simp), (by simp), (by trivial), rfl, rfl, rfl⟩ ?_; rintro _ _ _ _ ⟨i, rfl, hi, hP, rfl, rfl, rfl⟩
    clear hPS hCS
    by_cases hi : i < 5
    · obtain ⟨q1, q2⟩ := hPa _ (getD_mem (l := PS) (i := i) (by omega))
      obtain ⟨x1, x2⟩ := aftX_small (PS.getD i default) (CS.getD i default)
      have sA := sp_After (PS.getD i default) (CS.getD i default) (by omega)
      have sB := sp_rAfter (PS.getD i default) (CS.getD i default) (by omega)
      change Spec _ _ _ _ (.tup [encPlan (aftX _ _), _]) _ at sA sB
      have sC := sp_Check (PS.getD i default) (by omega)
      have sD := sp_rCheck (PS.getD i default) (by omega)
      have sU := sp_DupPlan (PS.getD i default) (by omega) (fun l hl => by have := q2 l hl; omega)
      have sE1 := sp_EqPlans (aftX (PS.getD i default) (CS.getD i default)) (aftX (PS.getD i default) (CS.getD i default)) (by omega) (fun l hl => by have := x2 l hl; omega)
      have sE2 := sp_EqPlans (PS.getD i default) (PS.getD i default) (by omega) (fun l hl => by have := q2 l hl; omega)
      simp only [decide_true] at sE1 sE2
      clear q1 q2 x1 x2 hPa
      generalize aftX (PS.getD i default) (CS.getD i default) = X at *
      generalize errOf (PS.getD i default) (CS.getD i default) = er at *
      generalize check (PS.getD i default) = ck at *
      have hi3 : (i : Int) < 5 := by omega
      have ee : (er != er) = false := by simp
      have ek : (ck != ck) = false := by simp
      repeat' (first | (with_reducible (show runOps ..); first | (refine Qr rfl ?_; try intro K' hK; try simp only [go_sem, *]) | (refine Qi rfl rfl rfl rfl (fun hb K' hK => ?_) (fun hb => ?_) <;> (have hc := hb; try simp only [go_sem] at hc; simp only [go_sem, *]))) | (with_reducible (show Hold ..); first | refine Qh rfl ?_ | refine s_draw rfl Tryz.mixed (by kernel_rfl) ?_ | (refine s_cond rfl ⟨_, rfl, fun hb => ?_, fun hb => ?_⟩ <;> (have hc := hb; try simp only [go_sem] at hc)) | refine s_ret rfl ?_) | (with_reducible (show callA ..); first | ((first | refine call_s (sU) ?_ ?_ | refine call_s (sA) ?_ ?_ | refine call_s (sB) ?_ ?_ | refine call_s (sC) ?_ ?_ | refine call_s (sD) ?_ ?_ | refine call_s (sE1) ?_ ?_); (focus (simp only [go_sem, *]; done)); simp only [go_sem, *]) | (refine call_s (sE2) ?_ ?_; (focus (simp only [go_sem, *]; done)); simp only [go_sem, *])) | ((with_reducible refine Qb ?_ ?_); focus kernel_rfl) | ((with_reducible refine And.intro ?_ ?_); focus omega) | (refine contA_of hK ?_; clear hK K'; simp only [go_sem, *]) | (simp only [thenA, inBlockA, go_sem, *]))
      all_goals first | contradiction | skip
      refine ⟨_, (by omega), [], [], _, _, _, (by (simp only [Weak, go_sem, List.map_append, List.map_set, *] <;> (try simp (disch := omega) only [wrap_succ]) <;> (try simp) <;> (try omega))), i + 1, rfl, (by omega), (by trivial), rfl, rfl, rfl⟩
    · have hi3 : ¬ (i : Int) < 5 := by omega
      repeat' (first | (with_reducible (show runOps ..); first | (refine Qr rfl ?_; try intro K' hK; try simp only [go_sem, *]) | (refine Qi rfl rfl rfl rfl (fun hb K' hK => ?_) (fun hb => ?_) <;> (have hc := hb; try simp only [go_sem] at hc; simp only [go_sem, *]))) | (with_reducible (show Hold ..); first | refine Qh rfl ?_ | refine s_draw rfl Tryz.mixed (by kernel_rfl) ?_ | (refine s_cond rfl ⟨_, rfl, fun hb => ?_, fun hb => ?_⟩ <;> (have hc := hb; try simp only [go_sem] at hc)) | refine s_ret rfl ?_) | (with_reducible (show callA ..); first | (refine call_s (sw) ?_ ?_; (focus (simp only [go_sem, *]; done)); simp only [go_sem, *])) | ((with_reducible refine Qb ?_ ?_); focus kernel_rfl) | ((with_reducible refine And.intro ?_ ?_); focus omega) | (refine contA_of hK ?_; clear hK K'; simp only [go_sem, *]) | (simp only [thenA, inBlockA, go_sem, *]))
      (refine ⟨[_], [], [], ⟨rfl, trivial⟩, ?_⟩; simp only [go_sem, *])
end Go.Abs

