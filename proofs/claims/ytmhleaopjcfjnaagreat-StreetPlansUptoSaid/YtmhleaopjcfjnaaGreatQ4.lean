/-
  WHAT THE PROOF STANDS ON, PART 4: contracts of the program's functions and the logic that they are proved in. No condition.
-/
import Derived.Test.YtmhleaopjcfjnaaGreatQ3
set_option linter.unusedVariables false
set_option linter.unusedSimpArgs false
set_option linter.unusedSectionVars false
namespace Go.Abs
open Go Go.Proofs
set_option maxRecDepth 10000
@[go_sem] theorem decide_mem_not {x : Plate} {l : List Plate} : (decide (x ∈ l) = false) = (x ∉ l) := by simp
theorem sp_felled (p : Plan) (c : Change) (v : Valid p) (f : Pre p c) (k : c.kind = 6) : Spec Tryz.prog 174 [encPlan p, c.enc, .mp 0] [.mapo (keysP p) (movesP p fun h => [h])] (iV (fitsE p c)) [outM p c] := by
  have hs0 := f.street.1
  have hs1 := f.street.2
  have hs : c.street.toNat < p.length := by omega
  have hr := v.row c.street
  have hl8 := hr.len
  refine spec_body Tryz.func174 rfl (fun E hE => ?_); simp only [go_sem, Tryz.ntmps174]
  repeat' (first | (with_reducible (show runOps ..); first | (refine Qr rfl ?_; try intro K' hK; try simp only [go_sem, *])) | (with_reducible (show Hold ..); first | refine Qh rfl ?_ | refine s_draw rfl Tryz.mixed (by kernel_rfl) ?_ | (refine s_cond rfl ⟨_, rfl, fun hb => ?_, fun hb => ?_⟩ <;> (have hc := hb; try simp only [go_sem] at hc)) | refine s_ret rfl ?_) | (with_reducible (show callA ..); first | (refine call_s (sp_Contains_plate (rowAt p c.street) c.src (by omega)) ?_ ?_; (focus (simp only [go_sem, *]; done)); simp only [go_sem, *])) | ((with_reducible refine Qb ?_ ?_); focus kernel_rfl) | ((with_reducible refine And.intro ?_ ?_); focus omega) | (refine contA_of hK ?_; clear hK K'; simp only [go_sem, *]) | (simp only [thenA, inBlockA, go_sem, *]))
  · have hm : c.src ∉ rowAt p c.street := by assumption
    have e : fitsE p c = 3 := by rw [fitsE_fell k, if_pos hm]
    have e2 : outM p c = .dead := by simp [outM, e]
    refine ⟨[_], [some 0], [], ⟨rfl, trivial⟩, ?_⟩
    simp only [go_sem, e, e2]
  · have hm : c.src ∈ rowAt p c.street := by assumption
    refine upd_mv_nil (g := fun h => [h]) v hs0 hs1 hm (by simp only [go_sem]) (by rw [to_fell k, if_pos rfl]) ?_
    simp only [go_sem, *]
    repeat' (first | (with_reducible (show runOps ..); first | (refine Qr rfl ?_; try intro K' hK; try simp only [go_sem, *])) | (with_reducible (show Hold ..); first | refine Qh rfl ?_ | refine s_draw rfl Tryz.mixed (by kernel_rfl) ?_ | (refine s_cond rfl ⟨_, rfl, fun hb => ?_, fun hb => ?_⟩ <;> (have hc := hb; try simp only [go_sem] at hc)) | refine s_ret rfl ?_) | ((with_reducible refine Qb ?_ ?_); focus kernel_rfl) | ((with_reducible refine And.intro ?_ ?_); focus omega) | (refine contA_of hK ?_; clear hK K'; simp only [go_sem, *]) | (simp only [thenA, inBlockA, go_sem, *]))
    have e : fitsE p c = 0 := by rw [fitsE_fell k, if_neg (fun h => h hm)]
    have e0 := ((Upd.nil p c).one c.src).fin (fun x hx hn => by
      have : ¬ x = c.src := fun h => hn (by simp [h])
      rw [to_fell k, if_neg this])
    have e2 : outM p c = .mapo (keysP p) (movesP p (updG p c (fun h => [h]) c.src)) := by rw [e0]; simp [outM, e]
    refine ⟨[_], [some 0], [], ⟨rfl, trivial⟩, ?_⟩
    simp only [go_sem, e, e2]
theorem letter_none {l : List Plate} {n : Int} (h : ∀ j : Nat, j < 4 → (⟨n, (j : Int) + 1⟩ : Plate) ∈ l) : letter l n = 0 := by
  have h0 := h 0; have h1 := h 1; have h2 := h 2; have h3 := h 3
  simp_all [letter]
@[go_sem] theorem natCast_ge8 (n : Nat) : ((8 : Int) ≤ (n : Int)) = (8 ≤ n) := by simp; omega
theorem sp_divided (p : Plan) (c : Change) (v : Valid p) (f : Pre p c) (k : c.kind = 5) : Spec Tryz.prog 173 [encPlan p, c.enc, .mp 0] [.mapo (keysP p) (movesP p fun h => [h])] (iV (fitsE p c)) [outM p c] := by
  have hs0 := f.street.1
  have hs1 := f.street.2
  have hs : c.street.toNat < p.length := by omega
  have hr := v.row c.street
  have hl8 := hr.len
  refine spec_body Tryz.func173 rfl (fun E hE => ?_); simp only [go_sem, Tryz.ntmps173]
  repeat' (first | (with_reducible (show runOps ..); first | (refine Qr rfl ?_; try intro K' hK; try simp only [go_sem, *]) | (refine Qi rfl rfl rfl rfl (fun hb K' hK => ?_) (fun hb => ?_) <;> (have hc := hb; try simp only [go_sem] at hc; simp only [go_sem, *]))) | (with_reducible (show Hold ..); first | refine Qh rfl ?_ | refine s_draw rfl Tryz.mixed (by kernel_rfl) ?_ | (refine s_cond rfl ⟨_, rfl, fun hb => ?_, fun hb => ?_⟩ <;> (have hc := hb; try simp only [go_sem] at hc)) | refine s_ret rfl ?_) | (with_reducible (show callA ..); first | (refine call_s (sp_Contains_plate (rowAt p c.street) c.src (by omega)) ?_ ?_; (focus (simp only [go_sem, *]; done)); simp only [go_sem, *])) | ((with_reducible refine Qb ?_ ?_); focus kernel_rfl) | ((with_reducible refine And.intro ?_ ?_); focus omega) | (refine contA_of hK ?_; clear hK K'; simp only [go_sem, *]) | (simp only [thenA, inBlockA, go_sem, *]))
  · have hm : c.src ∉ rowAt p c.street := by assumption
    have e : fitsE p c = 3 := by rw [fitsE_divide k, if_pos hm]
    have e2 : outM p c = .dead := by simp [outM, e]
    refine ⟨[_], [some 0], [], ⟨rfl, trivial⟩, ?_⟩
    simp only [go_sem, e, e2]
  · have hm : c.src ∈ rowAt p c.street := by assumption
    refine s_loop rfl (fun zn zN zenv zAs => ∃ (i : Nat), zn = (4) - i ∧ i ≤ (4) ∧ (∀ j : Nat, j < i → (⟨c.src.number, (j : Int) + 1⟩ : Plate) ∈ rowAt p c.street) ∧ zN = 53 ∧ zenv = [(8, iV ((i : Int) + 1)), (7, encStreet (rowAt p c.street)), (4, .ptr 2 0), (3, .ptr 1 0), (2, .mp 0)] ∧ zAs = [.mapo (keysP p) (movesP p fun h => [h]), pBox p, cBox c]) (4) ⟨[some 0, some 1, some 2], [], _, _, _, (by (simp only [Weak, go_sem, List.map_append, List.map_set, *] <;> (try simp (disch := omega) only [wrap_succ]) <;> (try simp) <;> (try omega))), 0, (by simp), (by simp), (by simp), rfl, rfl, rfl⟩ ?_; rintro _ _ _ _ ⟨i, rfl, hi, hP, rfl, rfl, rfl⟩
    have hw : i ≤ 4 → IntKind.i64.wrap ((i : Int) + 1 + 1) = (((i + 1 : Nat) : Int) + 1) := fun h => by rw [wrap_i64 (by omega) (by omega)]; omega
    repeat' (first | (with_reducible (show runOps ..); first | (refine Qr rfl ?_; try intro K' hK; try simp only [go_sem, *]) | (refine Qi rfl rfl rfl rfl (fun hb K' hK => ?_) (fun hb => ?_) <;> (have hc := hb; try simp only [go_sem] at hc; simp only [go_sem, *]))) | (with_reducible (show Hold ..); first | refine Qh rfl ?_ | refine s_draw rfl Tryz.mixed (by kernel_rfl) ?_ | (refine s_cond rfl ⟨_, rfl, fun hb => ?_, fun hb => ?_⟩ <;> (have hc := hb; try simp only [go_sem] at hc)) | refine s_ret rfl ?_) | (with_reducible (show callA ..); first | ((first | refine call_s (sp_Contains_plate (rowAt p c.street) ⟨c.src.number, (i : Int) + 1⟩ (by omega)) ?_ ?_ | refine call_s (sp_at _ _ _) ?_ ?_); (focus (simp only [go_sem, *]; done)); simp only [go_sem, *])) | ((with_reducible refine Qb ?_ ?_); focus kernel_rfl) | ((with_reducible refine And.intro ?_ ?_); focus omega) | (refine contA_of hK ?_; clear hK K'; simp only [go_sem, *]) | (simp only [thenA, inBlockA, go_sem, *]))
    · have hx : (⟨c.src.number, (i : Int) + 1⟩ : Plate) ∈ rowAt p c.street := by assumption
      have hok := (ok_iff _).1 (hr.ok _ hx)
      simp only at hok
      have hi4 : i < 4 := by omega
      refine ⟨_, (by omega), [some 0, some 1, some 2], [], _, _, _, (by (simp only [Weak, go_sem, List.map_append, List.map_set, *] <;> (try simp (disch := omega) only [wrap_succ]) <;> (try simp) <;> (try omega))), i + 1, rfl, (by omega), (fun j hj => ?_), rfl, rfl, rfl⟩
      rcases Nat.lt_succ_iff_lt_or_eq.1 hj with h | h
      · exact hP j h
      · subst h; exact hx
    · have hn : (⟨c.src.number, (i : Int) + 1⟩ : Plate) ∉ rowAt p c.street := by assumption
      have e : fitsE p c = 6 := by
        have h4 : i = 4 := by omega
        subst h4
        rw [fitsE_divide k, if_neg (fun h => h hm), if_pos (.inr (letter_none hP))]
      have e2 : outM p c = .dead := by simp [outM, e]
      refine ⟨[_], [some 0], [], ⟨rfl, trivial⟩, ?_⟩
      simp only [go_sem, e, e2]
    · have hn : (⟨c.src.number, (i : Int) + 1⟩ : Plate) ∉ rowAt p c.street := by assumption
      have hi4 : i < 4 := by omega
      have hlet := letter_eq hi4 hP hn
      refine upd_mv [⟨c.street, c.src⟩, ⟨c.street, ⟨c.src.number, (i : Int) + 1⟩⟩] (g := fun h => [h]) v hs0 hs1 hm (by simp only [go_sem]) (by simp only [go_sem]) rfl rfl (by rw [to_divide k, if_pos rfl, hlet]) ?_
      simp only [go_sem, *]
      repeat' (first | (with_reducible (show runOps ..); first | (refine Qr rfl ?_; try intro K' hK; try simp only [go_sem, *]) | (refine Qi rfl rfl rfl rfl (fun hb K' hK => ?_) (fun hb => ?_) <;> (have hc := hb; try simp only [go_sem] at hc; simp only [go_sem, *]))) | (with_reducible (show Hold ..); first | refine Qh rfl ?_ | refine s_draw rfl Tryz.mixed (by kernel_rfl) ?_ | (refine s_cond rfl ⟨_, rfl, fun hb => ?_, fun hb => ?_⟩ <;> (have hc := hb; try simp only [go_sem] at hc)) | refine s_ret rfl ?_) | ((with_reducible refine Qb ?_ ?_); focus kernel_rfl) | ((with_reducible refine And.intro ?_ ?_); focus omega) | (refine contA_of hK ?_; clear hK K'; simp only [go_sem, *]) | (simp only [thenA, inBlockA, go_sem, *]))
      have e : fitsE p c = 0 := by rw [fitsE_divide k, if_neg (fun h => h hm), if_neg (by omega)]
      have e0 := ((Upd.nil p c).one c.src).fin (fun x hx hn => by
        have : ¬ x = c.src := fun h => hn (by simp [h])
        rw [to_divide k, if_neg this])
      have e2 : outM p c = .mapo (keysP p) (movesP p (updG p c (fun h => [h]) c.src)) := by rw [e0]; simp [outM, e]
      refine ⟨[_], [some 0], [], ⟨rfl, trivial⟩, ?_⟩
      simp only [go_sem, e, e2]
    · have e : fitsE p c = 6 := by
        rw [fitsE_divide k, if_neg (fun h => h hm), if_pos (.inl (by omega))]
      have e2 : outM p c = .dead := by simp [outM, e]
      refine ⟨[_], [some 0], [], ⟨rfl, trivial⟩, ?_⟩
      simp only [go_sem, e, e2]
end Go.Abs

namespace Go.Abs
open Go Go.Proofs
set_option maxRecDepth 10000
@[go_sem] theorem natCast_neg (n : Nat) : ((n : Int) < 0) = False := by simp
@[go_sem] theorem decide_False : decide False = false := rfl
@[go_sem] theorem neg_lt0 : ((-1 : Int) < 0) = True := by simp
theorem sp_courted (p : Plan) (c : Change) (v : Valid p) (f : Pre p c) (k : c.kind = 7) : Spec Tryz.prog 175 [encPlan p, c.enc, .mp 0] [.mapo (keysP p) (movesP p fun h => [h])] (iV (fitsE p c)) [outM p c] := by
  have hs0 := f.street.1
  have hs1 := f.street.2
  obtain ⟨ht0, ht1, hne⟩ := f.other (.inr k)
  have hs : c.street.toNat < p.length := by omega
  have ht : c.other.toNat < p.length := by omega
  have hr := v.row c.street
  have hl8 := hr.len
  have ho8 := (v.row c.other).len
  have fail : ∀ n : Int, fitsE p c = n → n ≠ 0 → outM p c = .dead := fun n e h => by simp [outM, e, h]
  by_cases hm : c.src ∈ rowAt p c.street
  · have hA := idxP_of hm
    have hAl := idx_lt hm
    by_cases hd : c.dst ∈ rowAt p c.street
    · have hB := idxP_of hd
      have hBl := idx_lt hd
      have hcmp := sorted_lt_idx hr.sorted hd hm
      generalize hAe : (rowAt p c.street).idxOf c.src = A at *
      generalize hBe : (rowAt p c.street).idxOf c.dst = B at *
      have hf := fitsE_court (p := p) k
      rw [if_neg (by simp [hm, hd])] at hf
      have hwB : IntKind.i64.wrap ((B : Int) + 1) = ((B + 1 : Nat) : Int) := wrap_succ (by omega)
      obtain ⟨l', hl'⟩ : ∃ l', l' = ((rowAt p c.street).drop A).take (B + 1 - A) := ⟨_, rfl⟩
      have hll : ¬ B < A → l'.length = B + 1 - A := fun h => by rw [hl']; simp; omega
      by_cases hlt : B < A
      · rw [if_pos (hcmp.2 hlt)] at hf
        have e2 := fail _ hf (by omega)
        refine spec_body Tryz.func175 rfl (fun E hE => ?_); simp only [go_sem, Tryz.ntmps175]
        repeat' (first | (with_reducible (show runOps ..); first | (refine Qr rfl ?_; try intro K' hK; try simp only [go_sem, *]) | (refine Qi rfl rfl rfl rfl (fun hb K' hK => ?_) (fun hb => ?_) <;> (have hc := hb; try simp only [go_sem] at hc; simp only [go_sem, *]))) | (with_reducible (show Hold ..); first | refine Qh rfl ?_ | refine s_draw rfl Tryz.mixed (by kernel_rfl) ?_ | (refine s_cond rfl ⟨_, rfl, fun hb => ?_, fun hb => ?_⟩ <;> (have hc := hb; try simp only [go_sem] at hc)) | refine s_ret rfl ?_) | (with_reducible (show callA ..); first | ((first | refine call_s (sp_Index_plate (rowAt p c.street) c.src (by omega)) ?_ ?_ | refine call_s (sp_Index_plate (rowAt p c.street) c.dst (by omega)) ?_ ?_); (focus (simp only [go_sem, *]; done)); simp only [go_sem, *])) | ((with_reducible refine Qb ?_ ?_); focus kernel_rfl) | ((with_reducible refine And.intro ?_ ?_); focus omega) | (refine contA_of hK ?_; clear hK K'; simp only [go_sem, *]) | (simp only [thenA, inBlockA, go_sem, *]))
        all_goals first | (exfalso; omega) | (refine ⟨[_], [some 0], [], ⟨rfl, trivial⟩, ?_⟩; simp only [go_sem, *])
      · rw [if_neg (fun h => hlt (hcmp.1 h))] at hf
        by_cases ho : 0 < (rowAt p c.other).length
        · rw [if_pos ho] at hf
          have e2 := fail _ hf (by omega)
          refine spec_body Tryz.func175 rfl (fun E hE => ?_); simp only [go_sem, Tryz.ntmps175]
          repeat' (first | (with_reducible (show runOps ..); first | (refine Qr rfl ?_; try intro K' hK; try simp only [go_sem, *]) | (refine Qi rfl rfl rfl rfl (fun hb K' hK => ?_) (fun hb => ?_) <;> (have hc := hb; try simp only [go_sem] at hc; simp only [go_sem, *]))) | (with_reducible (show Hold ..); first | refine Qh rfl ?_ | refine s_draw rfl Tryz.mixed (by kernel_rfl) ?_ | (refine s_cond rfl ⟨_, rfl, fun hb => ?_, fun hb => ?_⟩ <;> (have hc := hb; try simp only [go_sem] at hc)) | refine s_ret rfl ?_) | (with_reducible (show callA ..); first | ((first | refine call_s (sp_Index_plate (rowAt p c.street) c.src (by omega)) ?_ ?_ | refine call_s (sp_Index_plate (rowAt p c.street) c.dst (by omega)) ?_ ?_); (focus (simp only [go_sem, *]; done)); simp only [go_sem, *])) | ((with_reducible refine Qb ?_ ?_); focus kernel_rfl) | ((with_reducible refine And.intro ?_ ?_); focus omega) | (refine contA_of hK ?_; clear hK K'; simp only [go_sem, *]) | (simp only [thenA, inBlockA, go_sem, *]))
          all_goals first | (exfalso; omega) | (refine ⟨[_], [some 0], [], ⟨rfl, trivial⟩, ?_⟩; simp only [go_sem, *])
        · rw [if_neg ho] at hf
          have hAB : A ≤ B + 1 := by omega
          have hll := hll hlt
          have hm' : List.take (B + 1 - A) (List.drop A ((rowAt p c.street).map Plate.enc)) = l'.map Plate.enc := by rw [hl', List.map_take, List.map_drop]
          have hget : ∀ i, i < l'.length → ∃ h : A + i < (rowAt p c.street).length, l'.getD i default = (rowAt p c.street)[A + i] := fun i hi => by
            have h : A + i < (rowAt p c.street).length := by omega
            refine ⟨h, ?_⟩
            rw [hl']
            simp only [List.getD_eq_getElem?_getD, List.getElem?_take, List.getElem?_drop]
            rw [if_pos (by omega), List.getElem?_eq_getElem h]; rfl
          have hidx : ∀ i (h : i < (rowAt p c.street).length), (rowAt p c.street).idxOf (rowAt p c.street)[i] = i := fun i h => by
            have := idx_get (List.getElem_mem h)
            exact (nodup_inj hr.nodup).1 this
          have hcond : ∀ x, x ∈ rowAt p c.street → ((x.lt c.src = false ∧ c.dst.lt x = false) ↔ A ≤ (rowAt p c.street).idxOf x ∧ (rowAt p c.street).idxOf x ≤ B) := fun x hx => by
            have h1 := sorted_lt_idx hr.sorted hx hm
            have h2 := sorted_lt_idx hr.sorted hd hx
            rw [hAe] at h1; rw [hBe] at h2
            rw [← Bool.not_eq_true, ← Bool.not_eq_true, h1, h2]; omega
          have htoP : ∀ i, i < l'.length → toP p c (l'.getD i default) = [⟨c.other, ⟨(i : Int) + 1, 0⟩⟩] ∧ l'.getD i default ∈ rowAt p c.street := fun i hi => by
            obtain ⟨h, e⟩ := hget i hi
            rw [e]
            have hmx := List.getElem_mem h
            have hix := hidx _ h
            refine ⟨?_, hmx⟩
            rw [to_court k, if_pos ((hcond _ hmx).2 (by rw [hix]; omega)), idxP_of hmx, hA, hix]
            congr 3; omega
          have hcov : ∀ x, x ∈ rowAt p c.street → x ∉ l' → toP p c x = [⟨c.street, x⟩] := fun x hx hn => by
            rw [to_court k, if_neg]
            rw [hcond x hx]
            rintro ⟨h1, h2⟩
            apply hn
            have hi : (rowAt p c.street).idxOf x - A < l'.length := by omega
            obtain ⟨h, e⟩ := hget _ hi
            have : (rowAt p c.street)[A + ((rowAt p c.street).idxOf x - A)] = x := by
              have h4 : A + ((rowAt p c.street).idxOf x - A) = (rowAt p c.street).idxOf x := by omega
              simp only [h4]; exact idx_get hx
            rw [this] at e
            rw [← e]; exact getD_mem hi
          clear hget hidx hcond hl'
          have hB8 : B + 1 ≤ (rowAt p c.street).length := by omega
          refine spec_body Tryz.func175 rfl (fun E hE => ?_); simp only [go_sem, Tryz.ntmps175]
          repeat' (first | (with_reducible (show runOps ..); first | (refine Qr rfl ?_; try intro K' hK; try simp only [go_sem, *]) | (refine Qi rfl rfl rfl rfl (fun hb K' hK => ?_) (fun hb => ?_) <;> (have hc := hb; try simp only [go_sem] at hc; simp only [go_sem, *]))) | (with_reducible (show Hold ..); first | refine Qh rfl ?_ | refine s_draw rfl Tryz.mixed (by kernel_rfl) ?_ | (refine s_cond rfl ⟨_, rfl, fun hb => ?_, fun hb => ?_⟩ <;> (have hc := hb; try simp only [go_sem] at hc)) | refine s_ret rfl ?_) | (with_reducible (show callA ..); first | ((first | refine call_s (sp_Index_plate (rowAt p c.street) c.src (by omega)) ?_ ?_ | refine call_s (sp_Index_plate (rowAt p c.street) c.dst (by omega)) ?_ ?_); (focus (simp only [go_sem, *]; done)); simp only [go_sem, *])) | ((with_reducible refine Qb ?_ ?_); focus kernel_rfl) | ((with_reducible refine And.intro ?_ ?_); focus omega) | (refine contA_of hK ?_; clear hK K'; simp only [go_sem, *]) | (simp only [thenA, inBlockA, go_sem, *]))
          all_goals first | (exfalso; omega) | skip
          refine ⟨fun y hy => by obtain ⟨x, _, rfl⟩ := List.mem_map.1 hy; rfl, ?_⟩
          try rw [hm']
          repeat' (first | (with_reducible (show runOps ..); first | (refine Qr rfl ?_; try intro K' hK; try simp only [go_sem, *]) | (refine Qi rfl rfl rfl rfl (fun hb K' hK => ?_) (fun hb => ?_) <;> (have hc := hb; try simp only [go_sem] at hc; simp only [go_sem, *]))) | (with_reducible (show Hold ..); first | refine Qh rfl ?_ | refine s_draw rfl Tryz.mixed (by kernel_rfl) ?_ | (refine s_cond rfl ⟨_, rfl, fun hb => ?_, fun hb => ?_⟩ <;> (have hc := hb; try simp only [go_sem] at hc)) | refine s_ret rfl ?_) | ((with_reducible refine Qb ?_ ?_); focus kernel_rfl) | ((with_reducible refine And.intro ?_ ?_); focus omega) | (refine contA_of hK ?_; clear hK K'; simp only [go_sem, *]) | (simp only [thenA, inBlockA, go_sem, *]))
          refine s_loop rfl (fun zn zN zenv zAs => ∃ (i : Nat) (g : House → List House), zn = (l'.length) - i ∧ i ≤ (l'.length) ∧ (Upd p c g (l'.take i)) ∧ zN = 69 ∧ zenv = [(52, iV i), (51, iV l'.length), (50, encStreet l'), (4, .ptr 2 0), (3, .ptr 1 0), (2, .mp 0)] ∧ zAs = [.mapo (keysP p) (movesP p g), pBox p, cBox c]) (l'.length) ⟨[some 0, some 1, some 2], [], _, _, _, (by (simp only [Weak, go_sem, List.map_append, List.map_set, *] <;> (try simp (disch := omega) only [wrap_succ]) <;> (try simp) <;> (try omega))), 0, fun h => [h], (by simp), (by simp), (by exact Upd.nil _ _), rfl, rfl, rfl⟩ ?_; rintro _ _ _ _ ⟨i, g, rfl, hi, hP, rfl, rfl, rfl⟩
          have hw : i < l'.length → IntKind.i64.wrap ((i : Int) + 1) = (i : Int) + 1 := fun h => wrap_i64 (by omega) (by omega)
          repeat' (first | (with_reducible (show runOps ..); first | (refine Qr rfl ?_; try intro K' hK; try simp only [go_sem, *]) | (refine Qi rfl rfl rfl rfl (fun hb K' hK => ?_) (fun hb => ?_) <;> (have hc := hb; try simp only [go_sem] at hc; simp only [go_sem, *]))) | (with_reducible (show Hold ..); first | refine Qh rfl ?_ | refine s_draw rfl Tryz.mixed (by kernel_rfl) ?_ | (refine s_cond rfl ⟨_, rfl, fun hb => ?_, fun hb => ?_⟩ <;> (have hc := hb; try simp only [go_sem] at hc)) | refine s_ret rfl ?_) | (with_reducible (show callA ..); first | (refine call_s (sp_at _ _ _) ?_ ?_; (focus (simp only [go_sem, *]; done)); simp only [go_sem, *])) | ((with_reducible refine Qb ?_ ?_); focus kernel_rfl) | ((with_reducible refine And.intro ?_ ?_); focus omega) | (refine contA_of hK ?_; clear hK K'; simp only [go_sem, *]) | (simp only [thenA, inBlockA, go_sem, *]))
          · obtain ⟨q1, q2⟩ := htoP i (by omega)
            refine upd_mv [⟨c.other, ⟨(i : Int) + 1, 0⟩⟩] (g := g) (x := l'.getD i default) v hs0 hs1 q2 (by simp only [go_sem, *]) (by simp only [go_sem, *]) rfl rfl q1 ?_
            simp only [go_sem, *]
            repeat' (first | (with_reducible (show runOps ..); first | (refine Qr rfl ?_; try intro K' hK; try simp only [go_sem, *]) | (refine Qi rfl rfl rfl rfl (fun hb K' hK => ?_) (fun hb => ?_) <;> (have hc := hb; try simp only [go_sem] at hc; simp only [go_sem, *]))) | (with_reducible (show Hold ..); first | refine Qh rfl ?_ | refine s_draw rfl Tryz.mixed (by kernel_rfl) ?_ | (refine s_cond rfl ⟨_, rfl, fun hb => ?_, fun hb => ?_⟩ <;> (have hc := hb; try simp only [go_sem] at hc)) | refine s_ret rfl ?_) | ((with_reducible refine Qb ?_ ?_); focus kernel_rfl) | ((with_reducible refine And.intro ?_ ?_); focus omega) | (refine contA_of hK ?_; clear hK K'; simp only [go_sem, *]) | (simp only [thenA, inBlockA, go_sem, *]))
            have e := take_succ_getD (l := l') (i := i) (by omega)
            refine ⟨_, (by omega), [some 0, some 1, some 2], [], _, _, _, (by (simp only [Weak, go_sem, List.map_append, List.map_set, *] <;> (try simp (disch := omega) only [wrap_succ]) <;> (try simp) <;> (try omega))), i + 1, updG p c g (l'.getD i default), rfl, (by omega), (by rw [e]; exact hP.one _), rfl, rfl, rfl⟩
          · rw [List.take_of_length_le (by omega)] at hP
            have e0 := hP.fin hcov
            have e2 : outM p c = .mapo (keysP p) (movesP p g) := by rw [e0]; simp [outM, hf]
            refine ⟨[_], [some 0], [], ⟨rfl, trivial⟩, ?_⟩
            simp only [go_sem, hf, e2]
    · have hf : fitsE p c = 3 := by rw [fitsE_court k, if_pos (.inr hd)]
      have e2 := fail _ hf (by omega)
      have hB := idx_none hd
      refine spec_body Tryz.func175 rfl (fun E hE => ?_); simp only [go_sem, Tryz.ntmps175]
      repeat' (first | (with_reducible (show runOps ..); first | (refine Qr rfl ?_; try intro K' hK; try simp only [go_sem, *]) | (refine Qi rfl rfl rfl rfl (fun hb K' hK => ?_) (fun hb => ?_) <;> (have hc := hb; try simp only [go_sem] at hc; simp only [go_sem, *]))) | (with_reducible (show Hold ..); first | refine Qh rfl ?_ | refine s_draw rfl Tryz.mixed (by kernel_rfl) ?_ | (refine s_cond rfl ⟨_, rfl, fun hb => ?_, fun hb => ?_⟩ <;> (have hc := hb; try simp only [go_sem] at hc)) | refine s_ret rfl ?_) | (with_reducible (show callA ..); first | ((first | refine call_s (sp_Index_plate (rowAt p c.street) c.src (by omega)) ?_ ?_ | refine call_s (sp_Index_plate (rowAt p c.street) c.dst (by omega)) ?_ ?_); (focus (simp only [go_sem, *]; done)); simp only [go_sem, *])) | ((with_reducible refine Qb ?_ ?_); focus kernel_rfl) | ((with_reducible refine And.intro ?_ ?_); focus omega) | (refine contA_of hK ?_; clear hK K'; simp only [go_sem, *]) | (simp only [thenA, inBlockA, go_sem, *]))
      all_goals first | (exfalso; omega) | (refine ⟨[_], [some 0], [], ⟨rfl, trivial⟩, ?_⟩; simp only [go_sem, *])
  · have hf : fitsE p c = 3 := by rw [fitsE_court k, if_pos (.inl hm)]
    have e2 := fail _ hf (by omega)
    have hA := idx_none hm
    refine spec_body Tryz.func175 rfl (fun E hE => ?_); simp only [go_sem, Tryz.ntmps175]
    repeat' (first | (with_reducible (show runOps ..); first | (refine Qr rfl ?_; try intro K' hK; try simp only [go_sem, *]) | (refine Qi rfl rfl rfl rfl (fun hb K' hK => ?_) (fun hb => ?_) <;> (have hc := hb; try simp only [go_sem] at hc; simp only [go_sem, *]))) | (with_reducible (show Hold ..); first | refine Qh rfl ?_ | refine s_draw rfl Tryz.mixed (by kernel_rfl) ?_ | (refine s_cond rfl ⟨_, rfl, fun hb => ?_, fun hb => ?_⟩ <;> (have hc := hb; try simp only [go_sem] at hc)) | refine s_ret rfl ?_) | (with_reducible (show callA ..); first | ((first | refine call_s (sp_Index_plate (rowAt p c.street) c.src (by omega)) ?_ ?_ | refine call_s (sp_Index_plate (rowAt p c.street) c.dst (by omega)) ?_ ?_); (focus (simp only [go_sem, *]; done)); simp only [go_sem, *])) | ((with_reducible refine Qb ?_ ?_); focus kernel_rfl) | ((with_reducible refine And.intro ?_ ?_); focus omega) | (refine contA_of hK ?_; clear hK K'; simp only [go_sem, *]) | (simp only [thenA, inBlockA, go_sem, *]))
    all_goals first | (exfalso; omega) | (refine ⟨[_], [some 0], [], ⟨rfl, trivial⟩, ?_⟩; simp only [go_sem, *])
end Go.Abs

namespace Go.Abs
open Go Go.Proofs
set_option maxRecDepth 10000
theorem eff_kind (p : Plan) (c : Change) (hl : p.length ≤ 1000) (hbk : betw c.kind 1 7 = false) : Spec Tryz.prog 125 [encPlan p, c.enc] [] (.tup [.raw (.map none), iV 8]) [] := by
  have hwl : IntKind.i64.wrap ((p.length : Int) - 1) = (p.length : Int) - 1 := wrap_i64 (by omega) (by omega)
  refine spec_body Tryz.func125 rfl (fun E hE => ?_); simp only [go_sem, Tryz.ntmps125]
  repeat' (first | (with_reducible (show runOps ..); first | (refine Qr rfl ?_; try intro K' hK; try simp only [go_sem, *]) | (refine Qi rfl rfl rfl rfl (fun hb K' hK => ?_) (fun hb => ?_) <;> (have hc := hb; try simp only [go_sem] at hc; simp only [go_sem, *]))) | (with_reducible (show Hold ..); first | refine Qh rfl ?_ | refine s_draw rfl Tryz.mixed (by kernel_rfl) ?_ | (refine s_cond rfl ⟨_, rfl, fun hb => ?_, fun hb => ?_⟩ <;> (have hc := hb; try simp only [go_sem] at hc)) | refine s_ret rfl ?_) | (with_reducible (show callA ..); first | (refine call_s (sp_between _ _ _) ?_ ?_; (focus (simp only [go_sem, *]; done)); simp only [go_sem, *])) | ((with_reducible refine Qb ?_ ?_); focus kernel_rfl) | ((with_reducible refine And.intro ?_ ?_); focus omega) | (refine contA_of hK ?_; clear hK K'; simp only [go_sem, *]) | (simp only [thenA, inBlockA, go_sem, *]))
  all_goals (refine ⟨[_, _], [], [], ⟨rfl, rfl, trivial⟩, ?_⟩; simp only [go_sem, *])
theorem eff_street (p : Plan) (c : Change) (hl : p.length ≤ 1000) (hbk : betw c.kind 1 7 = true) (hbs : betw c.street 0 ((p.length : Int) - 1) = false) : Spec Tryz.prog 125 [encPlan p, c.enc] [] (.tup [.raw (.map none), iV 3]) [] := by
  have hwl : IntKind.i64.wrap ((p.length : Int) - 1) = (p.length : Int) - 1 := wrap_i64 (by omega) (by omega)
  refine spec_body Tryz.func125 rfl (fun E hE => ?_); simp only [go_sem, Tryz.ntmps125]
  repeat' (first | (with_reducible (show runOps ..); first | (refine Qr rfl ?_; try intro K' hK; try simp only [go_sem, *]) | (refine Qi rfl rfl rfl rfl (fun hb K' hK => ?_) (fun hb => ?_) <;> (have hc := hb; try simp only [go_sem] at hc; simp only [go_sem, *]))) | (with_reducible (show Hold ..); first | refine Qh rfl ?_ | refine s_draw rfl Tryz.mixed (by kernel_rfl) ?_ | (refine s_cond rfl ⟨_, rfl, fun hb => ?_, fun hb => ?_⟩ <;> (have hc := hb; try simp only [go_sem] at hc)) | refine s_ret rfl ?_) | (with_reducible (show callA ..); first | (refine call_s (sp_between _ _ _) ?_ ?_; (focus (simp only [go_sem, *]; done)); simp only [go_sem, *])) | ((with_reducible refine Qb ?_ ?_); focus kernel_rfl) | ((with_reducible refine And.intro ?_ ?_); focus omega) | (refine contA_of hK ?_; clear hK K'; simp only [go_sem, *]) | (simp only [thenA, inBlockA, go_sem, *]))
  all_goals (refine ⟨[_, _], [], [], ⟨rfl, rfl, trivial⟩, ?_⟩; simp only [go_sem, *])
theorem eff_o4 (p : Plan) (c : Change) (hl : p.length ≤ 1000) (hbk : betw c.kind 1 7 = true) (hbs : betw c.street 0 ((p.length : Int) - 1) = true) (hk4 : (c.kind == 4) = true) (hbo : betw c.other 0 ((p.length : Int) - 1) = false) : Spec Tryz.prog 125 [encPlan p, c.enc] [] (.tup [.raw (.map none), iV 3]) [] := by
  have hwl : IntKind.i64.wrap ((p.length : Int) - 1) = (p.length : Int) - 1 := wrap_i64 (by omega) (by omega)
  refine spec_body Tryz.func125 rfl (fun E hE => ?_); simp only [go_sem, Tryz.ntmps125]
  repeat' (first | (with_reducible (show runOps ..); first | (refine Qr rfl ?_; try intro K' hK; try simp only [go_sem, *]) | (refine Qi rfl rfl rfl rfl (fun hb K' hK => ?_) (fun hb => ?_) <;> (have hc := hb; try simp only [go_sem] at hc; simp only [go_sem, *]))) | (with_reducible (show Hold ..); first | refine Qh rfl ?_ | refine s_draw rfl Tryz.mixed (by kernel_rfl) ?_ | (refine s_cond rfl ⟨_, rfl, fun hb => ?_, fun hb => ?_⟩ <;> (have hc := hb; try simp only [go_sem] at hc)) | refine s_ret rfl ?_) | (with_reducible (show callA ..); first | (refine call_s (sp_between _ _ _) ?_ ?_; (focus (simp only [go_sem, *]; done)); simp only [go_sem, *])) | ((with_reducible refine Qb ?_ ?_); focus kernel_rfl) | ((with_reducible refine And.intro ?_ ?_); focus omega) | (refine contA_of hK ?_; clear hK K'; simp only [go_sem, *]) | (simp only [thenA, inBlockA, go_sem, *]))
  all_goals (refine ⟨[_, _], [], [], ⟨rfl, rfl, trivial⟩, ?_⟩; simp only [go_sem, *])
theorem eff_o7 (p : Plan) (c : Change) (hl : p.length ≤ 1000) (hbk : betw c.kind 1 7 = true) (hbs : betw c.street 0 ((p.length : Int) - 1) = true) (hk4 : (c.kind == 4) = false) (hk7 : (c.kind == 7) = true) (hbo : betw c.other 0 ((p.length : Int) - 1) = false) : Spec Tryz.prog 125 [encPlan p, c.enc] [] (.tup [.raw (.map none), iV 3]) [] := by
  have hwl : IntKind.i64.wrap ((p.length : Int) - 1) = (p.length : Int) - 1 := wrap_i64 (by omega) (by omega)
  refine spec_body Tryz.func125 rfl (fun E hE => ?_); simp only [go_sem, Tryz.ntmps125]
  repeat' (first | (with_reducible (show runOps ..); first | (refine Qr rfl ?_; try intro K' hK; try simp only [go_sem, *]) | (refine Qi rfl rfl rfl rfl (fun hb K' hK => ?_) (fun hb => ?_) <;> (have hc := hb; try simp only [go_sem] at hc; simp only [go_sem, *]))) | (with_reducible (show Hold ..); first | refine Qh rfl ?_ | refine s_draw rfl Tryz.mixed (by kernel_rfl) ?_ | (refine s_cond rfl ⟨_, rfl, fun hb => ?_, fun hb => ?_⟩ <;> (have hc := hb; try simp only [go_sem] at hc)) | refine s_ret rfl ?_) | (with_reducible (show callA ..); first | (refine call_s (sp_between _ _ _) ?_ ?_; (focus (simp only [go_sem, *]; done)); simp only [go_sem, *])) | ((with_reducible refine Qb ?_ ?_); focus kernel_rfl) | ((with_reducible refine And.intro ?_ ?_); focus omega) | (refine contA_of hK ?_; clear hK K'; simp only [go_sem, *]) | (simp only [thenA, inBlockA, go_sem, *]))
  all_goals (refine ⟨[_, _], [], [], ⟨rfl, rfl, trivial⟩, ?_⟩; simp only [go_sem, *])
theorem eff_r4 (p : Plan) (c : Change) (hl : p.length ≤ 1000) (hbk : betw c.kind 1 7 = true) (hbs : betw c.street 0 ((p.length : Int) - 1) = true) (hk4 : (c.kind == 4) = true) (hbo : betw c.other 0 ((p.length : Int) - 1) = true) (hrp : (c.other == c.street) = true) : Spec Tryz.prog 125 [encPlan p, c.enc] [] (.tup [.raw (.map none), iV 4]) [] := by
  have hwl : IntKind.i64.wrap ((p.length : Int) - 1) = (p.length : Int) - 1 := wrap_i64 (by omega) (by omega)
  refine spec_body Tryz.func125 rfl (fun E hE => ?_); simp only [go_sem, Tryz.ntmps125]
  repeat' (first | (with_reducible (show runOps ..); first | (refine Qr rfl ?_; try intro K' hK; try simp only [go_sem, *]) | (refine Qi rfl rfl rfl rfl (fun hb K' hK => ?_) (fun hb => ?_) <;> (have hc := hb; try simp only [go_sem] at hc; simp only [go_sem, *]))) | (with_reducible (show Hold ..); first | refine Qh rfl ?_ | refine s_draw rfl Tryz.mixed (by kernel_rfl) ?_ | (refine s_cond rfl ⟨_, rfl, fun hb => ?_, fun hb => ?_⟩ <;> (have hc := hb; try simp only [go_sem] at hc)) | refine s_ret rfl ?_) | (with_reducible (show callA ..); first | (refine call_s (sp_between _ _ _) ?_ ?_; (focus (simp only [go_sem, *]; done)); simp only [go_sem, *])) | ((with_reducible refine Qb ?_ ?_); focus kernel_rfl) | ((with_reducible refine And.intro ?_ ?_); focus omega) | (refine contA_of hK ?_; clear hK K'; simp only [go_sem, *]) | (simp only [thenA, inBlockA, go_sem, *]))
  all_goals (refine ⟨[_, _], [], [], ⟨rfl, rfl, trivial⟩, ?_⟩; simp only [go_sem, *])
theorem eff_r7 (p : Plan) (c : Change) (hl : p.length ≤ 1000) (hbk : betw c.kind 1 7 = true) (hbs : betw c.street 0 ((p.length : Int) - 1) = true) (hk4 : (c.kind == 4) = false) (hk7 : (c.kind == 7) = true) (hbo : betw c.other 0 ((p.length : Int) - 1) = true) (hrp : (c.other == c.street) = true) : Spec Tryz.prog 125 [encPlan p, c.enc] [] (.tup [.raw (.map none), iV 4]) [] := by
  have hwl : IntKind.i64.wrap ((p.length : Int) - 1) = (p.length : Int) - 1 := wrap_i64 (by omega) (by omega)
  refine spec_body Tryz.func125 rfl (fun E hE => ?_); simp only [go_sem, Tryz.ntmps125]
  repeat' (first | (with_reducible (show runOps ..); first | (refine Qr rfl ?_; try intro K' hK; try simp only [go_sem, *]) | (refine Qi rfl rfl rfl rfl (fun hb K' hK => ?_) (fun hb => ?_) <;> (have hc := hb; try simp only [go_sem] at hc; simp only [go_sem, *]))) | (with_reducible (show Hold ..); first | refine Qh rfl ?_ | refine s_draw rfl Tryz.mixed (by kernel_rfl) ?_ | (refine s_cond rfl ⟨_, rfl, fun hb => ?_, fun hb => ?_⟩ <;> (have hc := hb; try simp only [go_sem] at hc)) | refine s_ret rfl ?_) | (with_reducible (show callA ..); first | (refine call_s (sp_between _ _ _) ?_ ?_; (focus (simp only [go_sem, *]; done)); simp only [go_sem, *])) | ((with_reducible refine Qb ?_ ?_); focus kernel_rfl) | ((with_reducible refine And.intro ?_ ?_); focus omega) | (refine contA_of hK ?_; clear hK K'; simp only [go_sem, *]) | (simp only [thenA, inBlockA, go_sem, *]))
  all_goals (refine ⟨[_, _], [], [], ⟨rfl, rfl, trivial⟩, ?_⟩; simp only [go_sem, *])
theorem eff_a (p : Plan) (c : Change) (hl : p.length ≤ 1000) (hbk : betw c.kind 1 7 = true) (hbs : betw c.street 0 ((p.length : Int) - 1) = true) (hk4 : (c.kind == 4) = false) (hk7 : (c.kind == 7) = false) (hco : (c.other != 0) = true) : Spec Tryz.prog 125 [encPlan p, c.enc] [] (.tup [.raw (.map none), iV 1]) [] := by
  have hwl : IntKind.i64.wrap ((p.length : Int) - 1) = (p.length : Int) - 1 := wrap_i64 (by omega) (by omega)
  refine spec_body Tryz.func125 rfl (fun E hE => ?_); simp only [go_sem, Tryz.ntmps125]
  repeat' (first | (with_reducible (show runOps ..); first | (refine Qr rfl ?_; try intro K' hK; try simp only [go_sem, *]) | (refine Qi rfl rfl rfl rfl (fun hb K' hK => ?_) (fun hb => ?_) <;> (have hc := hb; try simp only [go_sem] at hc; simp only [go_sem, *]))) | (with_reducible (show Hold ..); first | refine Qh rfl ?_ | refine s_draw rfl Tryz.mixed (by kernel_rfl) ?_ | (refine s_cond rfl ⟨_, rfl, fun hb => ?_, fun hb => ?_⟩ <;> (have hc := hb; try simp only [go_sem] at hc)) | refine s_ret rfl ?_) | (with_reducible (show callA ..); first | (refine call_s (sp_between _ _ _) ?_ ?_; (focus (simp only [go_sem, *]; done)); simp only [go_sem, *])) | ((with_reducible refine Qb ?_ ?_); focus kernel_rfl) | ((with_reducible refine And.intro ?_ ?_); focus omega) | (refine contA_of hK ?_; clear hK K'; simp only [go_sem, *]) | (simp only [thenA, inBlockA, go_sem, *]))
  all_goals (refine ⟨[_, _], [], [], ⟨rfl, rfl, trivial⟩, ?_⟩; simp only [go_sem, *])
theorem eff_b4 (p : Plan) (c : Change) (hl : p.length ≤ 1000) (hbk : betw c.kind 1 7 = true) (hbs : betw c.street 0 ((p.length : Int) - 1) = true) (hk4 : (c.kind == 4) = true) (hbo : betw c.other 0 ((p.length : Int) - 1) = true) (hrp : (c.other == c.street) = false) (hk5 : decide (c.kind ≥ 5) = false) (hsz : (c.src.number == 0 && c.src.letter == 0) = false) : Spec Tryz.prog 125 [encPlan p, c.enc] [] (.tup [.raw (.map none), iV 1]) [] := by
  have hwl : IntKind.i64.wrap ((p.length : Int) - 1) = (p.length : Int) - 1 := wrap_i64 (by omega) (by omega)
  refine spec_body Tryz.func125 rfl (fun E hE => ?_); simp only [go_sem, Tryz.ntmps125]
  repeat' (first | (with_reducible (show runOps ..); first | (refine Qr rfl ?_; try intro K' hK; try simp only [go_sem, *]) | (refine Qi rfl rfl rfl rfl (fun hb K' hK => ?_) (fun hb => ?_) <;> (have hc := hb; try simp only [go_sem] at hc; simp only [go_sem, *]))) | (with_reducible (show Hold ..); first | refine Qh rfl ?_ | refine s_draw rfl Tryz.mixed (by kernel_rfl) ?_ | (refine s_cond rfl ⟨_, rfl, fun hb => ?_, fun hb => ?_⟩ <;> (have hc := hb; try simp only [go_sem] at hc)) | refine s_ret rfl ?_) | (with_reducible (show callA ..); first | (refine call_s (sp_between _ _ _) ?_ ?_; (focus (simp only [go_sem, *]; done)); simp only [go_sem, *])) | ((with_reducible refine Qb ?_ ?_); focus kernel_rfl) | ((with_reducible refine And.intro ?_ ?_); focus omega) | (refine contA_of hK ?_; clear hK K'; simp only [go_sem, *]) | (simp only [thenA, inBlockA, go_sem, *]))
  all_goals (refine ⟨[_, _], [], [], ⟨rfl, rfl, trivial⟩, ?_⟩; simp only [go_sem, *])
theorem eff_b (p : Plan) (c : Change) (hl : p.length ≤ 1000) (hbk : betw c.kind 1 7 = true) (hbs : betw c.street 0 ((p.length : Int) - 1) = true) (hk4 : (c.kind == 4) = false) (hk7 : (c.kind == 7) = false) (hco : (c.other != 0) = false) (hk5 : decide (c.kind ≥ 5) = false) (hsz : (c.src.number == 0 && c.src.letter == 0) = false) : Spec Tryz.prog 125 [encPlan p, c.enc] [] (.tup [.raw (.map none), iV 1]) [] := by
  have hwl : IntKind.i64.wrap ((p.length : Int) - 1) = (p.length : Int) - 1 := wrap_i64 (by omega) (by omega)
  refine spec_body Tryz.func125 rfl (fun E hE => ?_); simp only [go_sem, Tryz.ntmps125]
  repeat' (first | (with_reducible (show runOps ..); first | (refine Qr rfl ?_; try intro K' hK; try simp only [go_sem, *]) | (refine Qi rfl rfl rfl rfl (fun hb K' hK => ?_) (fun hb => ?_) <;> (have hc := hb; try simp only [go_sem] at hc; simp only [go_sem, *]))) | (with_reducible (show Hold ..); first | refine Qh rfl ?_ | refine s_draw rfl Tryz.mixed (by kernel_rfl) ?_ | (refine s_cond rfl ⟨_, rfl, fun hb => ?_, fun hb => ?_⟩ <;> (have hc := hb; try simp only [go_sem] at hc)) | refine s_ret rfl ?_) | (with_reducible (show callA ..); first | (refine call_s (sp_between _ _ _) ?_ ?_; (focus (simp only [go_sem, *]; done)); simp only [go_sem, *])) | ((with_reducible refine Qb ?_ ?_); focus kernel_rfl) | ((with_reducible refine And.intro ?_ ?_); focus omega) | (refine contA_of hK ?_; clear hK K'; simp only [go_sem, *]) | (simp only [thenA, inBlockA, go_sem, *]))
  all_goals (refine ⟨[_, _], [], [], ⟨rfl, rfl, trivial⟩, ?_⟩; simp only [go_sem, *])
theorem eff_c4 (p : Plan) (c : Change) (hl : p.length ≤ 1000) (hbk : betw c.kind 1 7 = true) (hbs : betw c.street 0 ((p.length : Int) - 1) = true) (hk4 : (c.kind == 4) = true) (hk7 : (c.kind == 7) = false) (hbo : betw c.other 0 ((p.length : Int) - 1) = true) (hrp : (c.other == c.street) = false) (hk5 : decide (c.kind ≥ 5) = false) (hsz : (c.src.number == 0 && c.src.letter == 0) = true) (hdz : (c.dst.number == 0 && c.dst.letter == 0) = false) : Spec Tryz.prog 125 [encPlan p, c.enc] [] (.tup [.raw (.map none), iV 1]) [] := by
  have hwl : IntKind.i64.wrap ((p.length : Int) - 1) = (p.length : Int) - 1 := wrap_i64 (by omega) (by omega)
  refine spec_body Tryz.func125 rfl (fun E hE => ?_); simp only [go_sem, Tryz.ntmps125]
  repeat' (first | (with_reducible (show runOps ..); first | (refine Qr rfl ?_; try intro K' hK; try simp only [go_sem, *]) | (refine Qi rfl rfl rfl rfl (fun hb K' hK => ?_) (fun hb => ?_) <;> (have hc := hb; try simp only [go_sem] at hc; simp only [go_sem, *]))) | (with_reducible (show Hold ..); first | refine Qh rfl ?_ | refine s_draw rfl Tryz.mixed (by kernel_rfl) ?_ | (refine s_cond rfl ⟨_, rfl, fun hb => ?_, fun hb => ?_⟩ <;> (have hc := hb; try simp only [go_sem] at hc)) | refine s_ret rfl ?_) | (with_reducible (show callA ..); first | (refine call_s (sp_between _ _ _) ?_ ?_; (focus (simp only [go_sem, *]; done)); simp only [go_sem, *])) | ((with_reducible refine Qb ?_ ?_); focus kernel_rfl) | ((with_reducible refine And.intro ?_ ?_); focus omega) | (refine contA_of hK ?_; clear hK K'; simp only [go_sem, *]) | (simp only [thenA, inBlockA, go_sem, *]))
  all_goals (refine ⟨[_, _], [], [], ⟨rfl, rfl, trivial⟩, ?_⟩; simp only [go_sem, *])
theorem eff_c (p : Plan) (c : Change) (hl : p.length ≤ 1000) (hbk : betw c.kind 1 7 = true) (hbs : betw c.street 0 ((p.length : Int) - 1) = true) (hk4 : (c.kind == 4) = false) (hk7 : (c.kind == 7) = false) (hco : (c.other != 0) = false) (hk5 : decide (c.kind ≥ 5) = false) (hsz : (c.src.number == 0 && c.src.letter == 0) = true) (hdz : (c.dst.number == 0 && c.dst.letter == 0) = false) : Spec Tryz.prog 125 [encPlan p, c.enc] [] (.tup [.raw (.map none), iV 1]) [] := by
  have hwl : IntKind.i64.wrap ((p.length : Int) - 1) = (p.length : Int) - 1 := wrap_i64 (by omega) (by omega)
  refine spec_body Tryz.func125 rfl (fun E hE => ?_); simp only [go_sem, Tryz.ntmps125]
  repeat' (first | (with_reducible (show runOps ..); first | (refine Qr rfl ?_; try intro K' hK; try simp only [go_sem, *]) | (refine Qi rfl rfl rfl rfl (fun hb K' hK => ?_) (fun hb => ?_) <;> (have hc := hb; try simp only [go_sem] at hc; simp only [go_sem, *]))) | (with_reducible (show Hold ..); first | refine Qh rfl ?_ | refine s_draw rfl Tryz.mixed (by kernel_rfl) ?_ | (refine s_cond rfl ⟨_, rfl, fun hb => ?_, fun hb => ?_⟩ <;> (have hc := hb; try simp only [go_sem] at hc)) | refine s_ret rfl ?_) | (with_reducible (show callA ..); first | (refine call_s (sp_between _ _ _) ?_ ?_; (focus (simp only [go_sem, *]; done)); simp only [go_sem, *])) | ((with_reducible refine Qb ?_ ?_); focus kernel_rfl) | ((with_reducible refine And.intro ?_ ?_); focus omega) | (refine contA_of hK ?_; clear hK K'; simp only [go_sem, *]) | (simp only [thenA, inBlockA, go_sem, *]))
  all_goals (refine ⟨[_, _], [], [], ⟨rfl, rfl, trivial⟩, ?_⟩; simp only [go_sem, *])
theorem eff_c5 (p : Plan) (c : Change) (hl : p.length ≤ 1000) (hbk : betw c.kind 1 7 = true) (hbs : betw c.street 0 ((p.length : Int) - 1) = true) (hk4 : (c.kind == 4) = false) (hk7 : (c.kind == 7) = false) (hco : (c.other != 0) = false) (hk5 : decide (c.kind ≥ 5) = true) (hdz : (c.dst.number == 0 && c.dst.letter == 0) = false) : Spec Tryz.prog 125 [encPlan p, c.enc] [] (.tup [.raw (.map none), iV 1]) [] := by
  have hwl : IntKind.i64.wrap ((p.length : Int) - 1) = (p.length : Int) - 1 := wrap_i64 (by omega) (by omega)
  refine spec_body Tryz.func125 rfl (fun E hE => ?_); simp only [go_sem, Tryz.ntmps125]
  repeat' (first | (with_reducible (show runOps ..); first | (refine Qr rfl ?_; try intro K' hK; try simp only [go_sem, *]) | (refine Qi rfl rfl rfl rfl (fun hb K' hK => ?_) (fun hb => ?_) <;> (have hc := hb; try simp only [go_sem] at hc; simp only [go_sem, *]))) | (with_reducible (show Hold ..); first | refine Qh rfl ?_ | refine s_draw rfl Tryz.mixed (by kernel_rfl) ?_ | (refine s_cond rfl ⟨_, rfl, fun hb => ?_, fun hb => ?_⟩ <;> (have hc := hb; try simp only [go_sem] at hc)) | refine s_ret rfl ?_) | (with_reducible (show callA ..); first | (refine call_s (sp_between _ _ _) ?_ ?_; (focus (simp only [go_sem, *]; done)); simp only [go_sem, *])) | ((with_reducible refine Qb ?_ ?_); focus kernel_rfl) | ((with_reducible refine And.intro ?_ ?_); focus omega) | (refine contA_of hK ?_; clear hK K'; simp only [go_sem, *]) | (simp only [thenA, inBlockA, go_sem, *]))
  all_goals (refine ⟨[_, _], [], [], ⟨rfl, rfl, trivial⟩, ?_⟩; simp only [go_sem, *])
end Go.Abs

namespace Go.Abs
open Go Go.Proofs
set_option maxRecDepth 10000
attribute [go_sem] ge_iff_le
theorem fitsE_low {p : Plan} {c : Change} (h : c.kind = 1 ∨ c.kind = 2 ∨ c.kind = 3) : fitsE p c = 0 := by
  unfold fitsE; rw [if_neg (by omega), if_neg (by omega), if_neg (by omega), if_neg (by omega)]
theorem outM_low {p : Plan} {c : Change} (h : fitsE p c = 0) : outM p c = .mapo (keysP p) (movesP p (mv p c)) := by simp [outM, h]
def effR (p : Plan) (c : Change) : AV := if fitsE p c = 0 then .tup [.mp 0, iV 0] else .tup [.raw (.map none), iV (fitsE p c)]
def effO (p : Plan) (c : Change) : List AObj := if fitsE p c = 0 then [.mapo (keysP p) (movesP p (mv p c))] else []
@[go_sem] theorem betw_k1 : betw 1 1 7 = true := by decide
@[go_sem] theorem betw_k2 : betw 2 1 7 = true := by decide
@[go_sem] theorem betw_k3 : betw 3 1 7 = true := by decide
@[go_sem] theorem betw_k4 : betw 4 1 7 = true := by decide
@[go_sem] theorem betw_k5 : betw 5 1 7 = true := by decide
@[go_sem] theorem betw_k6 : betw 6 1 7 = true := by decide
@[go_sem] theorem betw_k7 : betw 7 1 7 = true := by decide
theorem sp_kind1 (p : Plan) (c : Change) (v : Valid p) (f : Pre p c) (k : c.kind = 1) : Spec Tryz.prog 169 [encPlan p, c.enc, .mp 0] [.mapo (keysP p) (movesP p fun h => [h])] (iV (fitsE p c)) [outM p c] := by
  have h := fitsE_low (p := p) (c := c) (by omega)
  rw [outM_low h, h]
  exact sp_turned p c v (f.fit h) k
theorem sp_kind2 (p : Plan) (c : Change) (v : Valid p) (f : Pre p c) (k : c.kind = 2) : Spec Tryz.prog 170 [encPlan p, c.enc, .mp 0] [.mapo (keysP p) (movesP p fun h => [h])] (iV (fitsE p c)) [outM p c] := by
  have h := fitsE_low (p := p) (c := c) (by omega)
  rw [outM_low h, h]
  exact sp_swapped p c v (f.fit h) k
theorem sp_kind3 (p : Plan) (c : Change) (v : Valid p) (f : Pre p c) (k : c.kind = 3) : Spec Tryz.prog 171 [encPlan p, c.enc, .mp 0] [.mapo (keysP p) (movesP p fun h => [h])] (iV (fitsE p c)) [outM p c] := by
  have h := fitsE_low (p := p) (c := c) (by omega)
  rw [outM_low h, h]
  exact sp_counted p c v (f.fit h) k
theorem eff_k1 (p : Plan) (c : Change) (v : Valid p) (f : Pre p c) (k : c.kind = 1) (hco : (c.other != 0) = false) (hsz : (c.src.number == 0 && c.src.letter == 0) = true) (hdz : (c.dst.number == 0 && c.dst.letter == 0) = true) : Spec Tryz.prog 125 [encPlan p, c.enc] [] (effR p c) (effO p c) := by
  have hwl : IntKind.i64.wrap ((p.length : Int) - 1) = (p.length : Int) - 1 := by have := v.len; exact wrap_i64 (by omega) (by omega)
  have hbs : betw c.street 0 ((p.length : Int) - 1) = true := betw_iff.2 (by have := f.street; omega)
  refine spec_body Tryz.func125 rfl (fun E hE => ?_); simp only [go_sem, Tryz.ntmps125]
  repeat' (first | (with_reducible (show runOps ..); first | (refine Qr rfl ?_; try intro K' hK; try simp only [go_sem, *]) | (refine Qi rfl rfl rfl rfl (fun hb K' hK => ?_) (fun hb => ?_) <;> (have hc := hb; try simp only [go_sem] at hc; simp only [go_sem, *]))) | (with_reducible (show Hold ..); first | refine Qh rfl ?_ | refine s_draw rfl Tryz.mixed (by kernel_rfl) ?_ | (refine s_cond rfl ⟨_, rfl, fun hb => ?_, fun hb => ?_⟩ <;> (have hc := hb; try simp only [go_sem] at hc)) | refine s_ret rfl ?_) | (with_reducible (show callA ..); first | ((first | refine call_s (sp_between _ _ _) ?_ ?_ | refine call_s (sp_effects) ?_ ?_); (focus (simp only [go_sem, *]; done)); simp only [go_sem, *]) | (refine call_n (sp_stay p v) ?_ ?_ ?_ ?_; (focus (simp only [go_sem, *]; done)); (focus (first | (simp; done) | (simp [go_sem]; done))); (focus (first | (simp; done) | (simp [go_sem]; done))); simp only [go_sem, *])) | ((with_reducible refine Qb ?_ ?_); focus kernel_rfl) | ((with_reducible refine And.intro ?_ ?_); focus omega) | (refine contA_of hK ?_; clear hK K'; simp only [go_sem, *]) | (simp only [thenA, inBlockA, go_sem, *]))
  refine call_of [2] [] (sp_kind1 p c v f k) (by simp) (by simp only [go_sem, *]) (by simp only [go_sem, AObj.live, *]) (by simp) (.inl rfl) (by simp [go_sem]) (by simp [outM]; split <;> simp) ?_
  simp only [go_sem, *]
  repeat' (first | (with_reducible (show runOps ..); first | (refine Qr rfl ?_; try intro K' hK; try simp only [go_sem, *]) | (refine Qi rfl rfl rfl rfl (fun hb K' hK => ?_) (fun hb => ?_) <;> (have hc := hb; try simp only [go_sem] at hc; simp only [go_sem, *]))) | (with_reducible (show Hold ..); first | refine Qh rfl ?_ | refine s_draw rfl Tryz.mixed (by kernel_rfl) ?_ | (refine s_cond rfl ⟨_, rfl, fun hb => ?_, fun hb => ?_⟩ <;> (have hc := hb; try simp only [go_sem] at hc)) | refine s_ret rfl ?_) | ((with_reducible refine Qb ?_ ?_); focus kernel_rfl) | ((with_reducible refine And.intro ?_ ?_); focus omega) | (refine contA_of hK ?_; clear hK K'; simp only [go_sem, *]) | (simp only [thenA, inBlockA, go_sem, *]))
  · have h : ¬ fitsE p c = 0 := by assumption
    have e1 : effR p c = .tup [.raw (.map none), iV (fitsE p c)] := by simp [effR, h]
    have e2 : effO p c = [] := by simp [effO, h]
    refine ⟨[_, _], [], [], ⟨rfl, rfl, trivial⟩, ?_⟩
    simp only [go_sem, e1, e2]
  · have h : fitsE p c = 0 := by assumption
    have e1 : effR p c = .tup [.mp 0, iV 0] := by simp [effR, h]
    have e2 : effO p c = [.mapo (keysP p) (movesP p (mv p c))] := by simp [effO, h]
    have e3 := outM_low h
    refine ⟨[_, _], [some 2], [], ⟨rfl, rfl, trivial⟩, ?_⟩
    simp only [go_sem, e1, e2, e3, AObj.ren]
theorem eff_k2 (p : Plan) (c : Change) (v : Valid p) (f : Pre p c) (k : c.kind = 2) (hco : (c.other != 0) = false) (hsz : (c.src.number == 0 && c.src.letter == 0) = true) (hdz : (c.dst.number == 0 && c.dst.letter == 0) = true) : Spec Tryz.prog 125 [encPlan p, c.enc] [] (effR p c) (effO p c) := by
  have hwl : IntKind.i64.wrap ((p.length : Int) - 1) = (p.length : Int) - 1 := by have := v.len; exact wrap_i64 (by omega) (by omega)
  have hbs : betw c.street 0 ((p.length : Int) - 1) = true := betw_iff.2 (by have := f.street; omega)
  refine spec_body Tryz.func125 rfl (fun E hE => ?_); simp only [go_sem, Tryz.ntmps125]
  repeat' (first | (with_reducible (show runOps ..); first | (refine Qr rfl ?_; try intro K' hK; try simp only [go_sem, *]) | (refine Qi rfl rfl rfl rfl (fun hb K' hK => ?_) (fun hb => ?_) <;> (have hc := hb; try simp only [go_sem] at hc; simp only [go_sem, *]))) | (with_reducible (show Hold ..); first | refine Qh rfl ?_ | refine s_draw rfl Tryz.mixed (by kernel_rfl) ?_ | (refine s_cond rfl ⟨_, rfl, fun hb => ?_, fun hb => ?_⟩ <;> (have hc := hb; try simp only [go_sem] at hc)) | refine s_ret rfl ?_) | (with_reducible (show callA ..); first | ((first | refine call_s (sp_between _ _ _) ?_ ?_ | refine call_s (sp_effects) ?_ ?_); (focus (simp only [go_sem, *]; done)); simp only [go_sem, *]) | (refine call_n (sp_stay p v) ?_ ?_ ?_ ?_; (focus (simp only [go_sem, *]; done)); (focus (first | (simp; done) | (simp [go_sem]; done))); (focus (first | (simp; done) | (simp [go_sem]; done))); simp only [go_sem, *])) | ((with_reducible refine Qb ?_ ?_); focus kernel_rfl) | ((with_reducible refine And.intro ?_ ?_); focus omega) | (refine contA_of hK ?_; clear hK K'; simp only [go_sem, *]) | (simp only [thenA, inBlockA, go_sem, *]))
  refine call_of [2] [] (sp_kind2 p c v f k) (by simp) (by simp only [go_sem, *]) (by simp only [go_sem, AObj.live, *]) (by simp) (.inl rfl) (by simp [go_sem]) (by simp [outM]; split <;> simp) ?_
  simp only [go_sem, *]
  repeat' (first | (with_reducible (show runOps ..); first | (refine Qr rfl ?_; try intro K' hK; try simp only [go_sem, *]) | (refine Qi rfl rfl rfl rfl (fun hb K' hK => ?_) (fun hb => ?_) <;> (have hc := hb; try simp only [go_sem] at hc; simp only [go_sem, *]))) | (with_reducible (show Hold ..); first | refine Qh rfl ?_ | refine s_draw rfl Tryz.mixed (by kernel_rfl) ?_ | (refine s_cond rfl ⟨_, rfl, fun hb => ?_, fun hb => ?_⟩ <;> (have hc := hb; try simp only [go_sem] at hc)) | refine s_ret rfl ?_) | ((with_reducible refine Qb ?_ ?_); focus kernel_rfl) | ((with_reducible refine And.intro ?_ ?_); focus omega) | (refine contA_of hK ?_; clear hK K'; simp only [go_sem, *]) | (simp only [thenA, inBlockA, go_sem, *]))
  · have h : ¬ fitsE p c = 0 := by assumption
    have e1 : effR p c = .tup [.raw (.map none), iV (fitsE p c)] := by simp [effR, h]
    have e2 : effO p c = [] := by simp [effO, h]
    refine ⟨[_, _], [], [], ⟨rfl, rfl, trivial⟩, ?_⟩
    simp only [go_sem, e1, e2]
  · have h : fitsE p c = 0 := by assumption
    have e1 : effR p c = .tup [.mp 0, iV 0] := by simp [effR, h]
    have e2 : effO p c = [.mapo (keysP p) (movesP p (mv p c))] := by simp [effO, h]
    have e3 := outM_low h
    refine ⟨[_, _], [some 2], [], ⟨rfl, rfl, trivial⟩, ?_⟩
    simp only [go_sem, e1, e2, e3, AObj.ren]
theorem eff_k3 (p : Plan) (c : Change) (v : Valid p) (f : Pre p c) (k : c.kind = 3) (hco : (c.other != 0) = false) (hsz : (c.src.number == 0 && c.src.letter == 0) = true) (hdz : (c.dst.number == 0 && c.dst.letter == 0) = true) : Spec Tryz.prog 125 [encPlan p, c.enc] [] (effR p c) (effO p c) := by
  have hwl : IntKind.i64.wrap ((p.length : Int) - 1) = (p.length : Int) - 1 := by have := v.len; exact wrap_i64 (by omega) (by omega)
  have hbs : betw c.street 0 ((p.length : Int) - 1) = true := betw_iff.2 (by have := f.street; omega)
  refine spec_body Tryz.func125 rfl (fun E hE => ?_); simp only [go_sem, Tryz.ntmps125]
  repeat' (first | (with_reducible (show runOps ..); first | (refine Qr rfl ?_; try intro K' hK; try simp only [go_sem, *]) | (refine Qi rfl rfl rfl rfl (fun hb K' hK => ?_) (fun hb => ?_) <;> (have hc := hb; try simp only [go_sem] at hc; simp only [go_sem, *]))) | (with_reducible (show Hold ..); first | refine Qh rfl ?_ | refine s_draw rfl Tryz.mixed (by kernel_rfl) ?_ | (refine s_cond rfl ⟨_, rfl, fun hb => ?_, fun hb => ?_⟩ <;> (have hc := hb; try simp only [go_sem] at hc)) | refine s_ret rfl ?_) | (with_reducible (show callA ..); first | ((first | refine call_s (sp_between _ _ _) ?_ ?_ | refine call_s (sp_effects) ?_ ?_); (focus (simp only [go_sem, *]; done)); simp only [go_sem, *]) | (refine call_n (sp_stay p v) ?_ ?_ ?_ ?_; (focus (simp only [go_sem, *]; done)); (focus (first | (simp; done) | (simp [go_sem]; done))); (focus (first | (simp; done) | (simp [go_sem]; done))); simp only [go_sem, *])) | ((with_reducible refine Qb ?_ ?_); focus kernel_rfl) | ((with_reducible refine And.intro ?_ ?_); focus omega) | (refine contA_of hK ?_; clear hK K'; simp only [go_sem, *]) | (simp only [thenA, inBlockA, go_sem, *]))
  refine call_of [2] [] (sp_kind3 p c v f k) (by simp) (by simp only [go_sem, *]) (by simp only [go_sem, AObj.live, *]) (by simp) (.inl rfl) (by simp [go_sem]) (by simp [outM]; split <;> simp) ?_
  simp only [go_sem, *]
  repeat' (first | (with_reducible (show runOps ..); first | (refine Qr rfl ?_; try intro K' hK; try simp only [go_sem, *]) | (refine Qi rfl rfl rfl rfl (fun hb K' hK => ?_) (fun hb => ?_) <;> (have hc := hb; try simp only [go_sem] at hc; simp only [go_sem, *]))) | (with_reducible (show Hold ..); first | refine Qh rfl ?_ | refine s_draw rfl Tryz.mixed (by kernel_rfl) ?_ | (refine s_cond rfl ⟨_, rfl, fun hb => ?_, fun hb => ?_⟩ <;> (have hc := hb; try simp only [go_sem] at hc)) | refine s_ret rfl ?_) | ((with_reducible refine Qb ?_ ?_); focus kernel_rfl) | ((with_reducible refine And.intro ?_ ?_); focus omega) | (refine contA_of hK ?_; clear hK K'; simp only [go_sem, *]) | (simp only [thenA, inBlockA, go_sem, *]))
  · have h : ¬ fitsE p c = 0 := by assumption
    have e1 : effR p c = .tup [.raw (.map none), iV (fitsE p c)] := by simp [effR, h]
    have e2 : effO p c = [] := by simp [effO, h]
    refine ⟨[_, _], [], [], ⟨rfl, rfl, trivial⟩, ?_⟩
    simp only [go_sem, e1, e2]
  · have h : fitsE p c = 0 := by assumption
    have e1 : effR p c = .tup [.mp 0, iV 0] := by simp [effR, h]
    have e2 : effO p c = [.mapo (keysP p) (movesP p (mv p c))] := by simp [effO, h]
    have e3 := outM_low h
    refine ⟨[_, _], [some 2], [], ⟨rfl, rfl, trivial⟩, ?_⟩
    simp only [go_sem, e1, e2, e3, AObj.ren]
theorem eff_k4 (p : Plan) (c : Change) (v : Valid p) (f : Pre p c) (k : c.kind = 4) (hbo : betw c.other 0 ((p.length : Int) - 1) = true) (hrp : (c.other == c.street) = false) (hsz : (c.src.number == 0 && c.src.letter == 0) = true) (hdz : (c.dst.number == 0 && c.dst.letter == 0) = true) : Spec Tryz.prog 125 [encPlan p, c.enc] [] (effR p c) (effO p c) := by
  have hwl : IntKind.i64.wrap ((p.length : Int) - 1) = (p.length : Int) - 1 := by have := v.len; exact wrap_i64 (by omega) (by omega)
  have hbs : betw c.street 0 ((p.length : Int) - 1) = true := betw_iff.2 (by have := f.street; omega)
  refine spec_body Tryz.func125 rfl (fun E hE => ?_); simp only [go_sem, Tryz.ntmps125]
  repeat' (first | (with_reducible (show runOps ..); first | (refine Qr rfl ?_; try intro K' hK; try simp only [go_sem, *]) | (refine Qi rfl rfl rfl rfl (fun hb K' hK => ?_) (fun hb => ?_) <;> (have hc := hb; try simp only [go_sem] at hc; simp only [go_sem, *]))) | (with_reducible (show Hold ..); first | refine Qh rfl ?_ | refine s_draw rfl Tryz.mixed (by kernel_rfl) ?_ | (refine s_cond rfl ⟨_, rfl, fun hb => ?_, fun hb => ?_⟩ <;> (have hc := hb; try simp only [go_sem] at hc)) | refine s_ret rfl ?_) | (with_reducible (show callA ..); first | ((first | refine call_s (sp_between _ _ _) ?_ ?_ | refine call_s (sp_effects) ?_ ?_); (focus (simp only [go_sem, *]; done)); simp only [go_sem, *]) | (refine call_n (sp_stay p v) ?_ ?_ ?_ ?_; (focus (simp only [go_sem, *]; done)); (focus (first | (simp; done) | (simp [go_sem]; done))); (focus (first | (simp; done) | (simp [go_sem]; done))); simp only [go_sem, *])) | ((with_reducible refine Qb ?_ ?_); focus kernel_rfl) | ((with_reducible refine And.intro ?_ ?_); focus omega) | (refine contA_of hK ?_; clear hK K'; simp only [go_sem, *]) | (simp only [thenA, inBlockA, go_sem, *]))
  refine call_of [2] [] (sp_joined p c v f k) (by simp) (by simp only [go_sem, *]) (by simp only [go_sem, AObj.live, *]) (by simp) (.inl rfl) (by simp [go_sem]) (by simp [outM]; split <;> simp) ?_
  simp only [go_sem, *]
  repeat' (first | (with_reducible (show runOps ..); first | (refine Qr rfl ?_; try intro K' hK; try simp only [go_sem, *]) | (refine Qi rfl rfl rfl rfl (fun hb K' hK => ?_) (fun hb => ?_) <;> (have hc := hb; try simp only [go_sem] at hc; simp only [go_sem, *]))) | (with_reducible (show Hold ..); first | refine Qh rfl ?_ | refine s_draw rfl Tryz.mixed (by kernel_rfl) ?_ | (refine s_cond rfl ⟨_, rfl, fun hb => ?_, fun hb => ?_⟩ <;> (have hc := hb; try simp only [go_sem] at hc)) | refine s_ret rfl ?_) | ((with_reducible refine Qb ?_ ?_); focus kernel_rfl) | ((with_reducible refine And.intro ?_ ?_); focus omega) | (refine contA_of hK ?_; clear hK K'; simp only [go_sem, *]) | (simp only [thenA, inBlockA, go_sem, *]))
  · have h : ¬ fitsE p c = 0 := by assumption
    have e1 : effR p c = .tup [.raw (.map none), iV (fitsE p c)] := by simp [effR, h]
    have e2 : effO p c = [] := by simp [effO, h]
    refine ⟨[_, _], [], [], ⟨rfl, rfl, trivial⟩, ?_⟩
    simp only [go_sem, e1, e2]
  · have h : fitsE p c = 0 := by assumption
    have e1 : effR p c = .tup [.mp 0, iV 0] := by simp [effR, h]
    have e2 : effO p c = [.mapo (keysP p) (movesP p (mv p c))] := by simp [effO, h]
    have e3 := outM_low h
    refine ⟨[_, _], [some 2], [], ⟨rfl, rfl, trivial⟩, ?_⟩
    simp only [go_sem, e1, e2, e3, AObj.ren]
theorem eff_k5 (p : Plan) (c : Change) (v : Valid p) (f : Pre p c) (k : c.kind = 5) (hco : (c.other != 0) = false) (hdz : (c.dst.number == 0 && c.dst.letter == 0) = true) : Spec Tryz.prog 125 [encPlan p, c.enc] [] (effR p c) (effO p c) := by
  have hwl : IntKind.i64.wrap ((p.length : Int) - 1) = (p.length : Int) - 1 := by have := v.len; exact wrap_i64 (by omega) (by omega)
  have hbs : betw c.street 0 ((p.length : Int) - 1) = true := betw_iff.2 (by have := f.street; omega)
  refine spec_body Tryz.func125 rfl (fun E hE => ?_); simp only [go_sem, Tryz.ntmps125]
  repeat' (first | (with_reducible (show runOps ..); first | (refine Qr rfl ?_; try intro K' hK; try simp only [go_sem, *]) | (refine Qi rfl rfl rfl rfl (fun hb K' hK => ?_) (fun hb => ?_) <;> (have hc := hb; try simp only [go_sem] at hc; simp only [go_sem, *]))) | (with_reducible (show Hold ..); first | refine Qh rfl ?_ | refine s_draw rfl Tryz.mixed (by kernel_rfl) ?_ | (refine s_cond rfl ⟨_, rfl, fun hb => ?_, fun hb => ?_⟩ <;> (have hc := hb; try simp only [go_sem] at hc)) | refine s_ret rfl ?_) | (with_reducible (show callA ..); first | ((first | refine call_s (sp_between _ _ _) ?_ ?_ | refine call_s (sp_effects) ?_ ?_); (focus (simp only [go_sem, *]; done)); simp only [go_sem, *]) | (refine call_n (sp_stay p v) ?_ ?_ ?_ ?_; (focus (simp only [go_sem, *]; done)); (focus (first | (simp; done) | (simp [go_sem]; done))); (focus (first | (simp; done) | (simp [go_sem]; done))); simp only [go_sem, *])) | ((with_reducible refine Qb ?_ ?_); focus kernel_rfl) | ((with_reducible refine And.intro ?_ ?_); focus omega) | (refine contA_of hK ?_; clear hK K'; simp only [go_sem, *]) | (simp only [thenA, inBlockA, go_sem, *]))
  refine call_of [2] [] (sp_divided p c v f k) (by simp) (by simp only [go_sem, *]) (by simp only [go_sem, AObj.live, *]) (by simp) (.inl rfl) (by simp [go_sem]) (by simp [outM]; split <;> simp) ?_
  simp only [go_sem, *]
  repeat' (first | (with_reducible (show runOps ..); first | (refine Qr rfl ?_; try intro K' hK; try simp only [go_sem, *]) | (refine Qi rfl rfl rfl rfl (fun hb K' hK => ?_) (fun hb => ?_) <;> (have hc := hb; try simp only [go_sem] at hc; simp only [go_sem, *]))) | (with_reducible (show Hold ..); first | refine Qh rfl ?_ | refine s_draw rfl Tryz.mixed (by kernel_rfl) ?_ | (refine s_cond rfl ⟨_, rfl, fun hb => ?_, fun hb => ?_⟩ <;> (have hc := hb; try simp only [go_sem] at hc)) | refine s_ret rfl ?_) | ((with_reducible refine Qb ?_ ?_); focus kernel_rfl) | ((with_reducible refine And.intro ?_ ?_); focus omega) | (refine contA_of hK ?_; clear hK K'; simp only [go_sem, *]) | (simp only [thenA, inBlockA, go_sem, *]))
  · have h : ¬ fitsE p c = 0 := by assumption
    have e1 : effR p c = .tup [.raw (.map none), iV (fitsE p c)] := by simp [effR, h]
    have e2 : effO p c = [] := by simp [effO, h]
    refine ⟨[_, _], [], [], ⟨rfl, rfl, trivial⟩, ?_⟩
    simp only [go_sem, e1, e2]
  · have h : fitsE p c = 0 := by assumption
    have e1 : effR p c = .tup [.mp 0, iV 0] := by simp [effR, h]
    have e2 : effO p c = [.mapo (keysP p) (movesP p (mv p c))] := by simp [effO, h]
    have e3 := outM_low h
    refine ⟨[_, _], [some 2], [], ⟨rfl, rfl, trivial⟩, ?_⟩
    simp only [go_sem, e1, e2, e3, AObj.ren]
theorem eff_k6 (p : Plan) (c : Change) (v : Valid p) (f : Pre p c) (k : c.kind = 6) (hco : (c.other != 0) = false) (hdz : (c.dst.number == 0 && c.dst.letter == 0) = true) : Spec Tryz.prog 125 [encPlan p, c.enc] [] (effR p c) (effO p c) := by
  have hwl : IntKind.i64.wrap ((p.length : Int) - 1) = (p.length : Int) - 1 := by have := v.len; exact wrap_i64 (by omega) (by omega)
  have hbs : betw c.street 0 ((p.length : Int) - 1) = true := betw_iff.2 (by have := f.street; omega)
  refine spec_body Tryz.func125 rfl (fun E hE => ?_); simp only [go_sem, Tryz.ntmps125]
  repeat' (first | (with_reducible (show runOps ..); first | (refine Qr rfl ?_; try intro K' hK; try simp only [go_sem, *]) | (refine Qi rfl rfl rfl rfl (fun hb K' hK => ?_) (fun hb => ?_) <;> (have hc := hb; try simp only [go_sem] at hc; simp only [go_sem, *]))) | (with_reducible (show Hold ..); first | refine Qh rfl ?_ | refine s_draw rfl Tryz.mixed (by kernel_rfl) ?_ | (refine s_cond rfl ⟨_, rfl, fun hb => ?_, fun hb => ?_⟩ <;> (have hc := hb; try simp only [go_sem] at hc)) | refine s_ret rfl ?_) | (with_reducible (show callA ..); first | ((first | refine call_s (sp_between _ _ _) ?_ ?_ | refine call_s (sp_effects) ?_ ?_); (focus (simp only [go_sem, *]; done)); simp only [go_sem, *]) | (refine call_n (sp_stay p v) ?_ ?_ ?_ ?_; (focus (simp only [go_sem, *]; done)); (focus (first | (simp; done) | (simp [go_sem]; done))); (focus (first | (simp; done) | (simp [go_sem]; done))); simp only [go_sem, *])) | ((with_reducible refine Qb ?_ ?_); focus kernel_rfl) | ((with_reducible refine And.intro ?_ ?_); focus omega) | (refine contA_of hK ?_; clear hK K'; simp only [go_sem, *]) | (simp only [thenA, inBlockA, go_sem, *]))
  refine call_of [2] [] (sp_felled p c v f k) (by simp) (by simp only [go_sem, *]) (by simp only [go_sem, AObj.live, *]) (by simp) (.inl rfl) (by simp [go_sem]) (by simp [outM]; split <;> simp) ?_
  simp only [go_sem, *]
  repeat' (first | (with_reducible (show runOps ..); first | (refine Qr rfl ?_; try intro K' hK; try simp only [go_sem, *]) | (refine Qi rfl rfl rfl rfl (fun hb K' hK => ?_) (fun hb => ?_) <;> (have hc := hb; try simp only [go_sem] at hc; simp only [go_sem, *]))) | (with_reducible (show Hold ..); first | refine Qh rfl ?_ | refine s_draw rfl Tryz.mixed (by kernel_rfl) ?_ | (refine s_cond rfl ⟨_, rfl, fun hb => ?_, fun hb => ?_⟩ <;> (have hc := hb; try simp only [go_sem] at hc)) | refine s_ret rfl ?_) | ((with_reducible refine Qb ?_ ?_); focus kernel_rfl) | ((with_reducible refine And.intro ?_ ?_); focus omega) | (refine contA_of hK ?_; clear hK K'; simp only [go_sem, *]) | (simp only [thenA, inBlockA, go_sem, *]))
  · have h : ¬ fitsE p c = 0 := by assumption
    have e1 : effR p c = .tup [.raw (.map none), iV (fitsE p c)] := by simp [effR, h]
    have e2 : effO p c = [] := by simp [effO, h]
    refine ⟨[_, _], [], [], ⟨rfl, rfl, trivial⟩, ?_⟩
    simp only [go_sem, e1, e2]
  · have h : fitsE p c = 0 := by assumption
    have e1 : effR p c = .tup [.mp 0, iV 0] := by simp [effR, h]
    have e2 : effO p c = [.mapo (keysP p) (movesP p (mv p c))] := by simp [effO, h]
    have e3 := outM_low h
    refine ⟨[_, _], [some 2], [], ⟨rfl, rfl, trivial⟩, ?_⟩
    simp only [go_sem, e1, e2, e3, AObj.ren]
theorem eff_k7 (p : Plan) (c : Change) (v : Valid p) (f : Pre p c) (k : c.kind = 7) (hbo : betw c.other 0 ((p.length : Int) - 1) = true) (hrp : (c.other == c.street) = false) : Spec Tryz.prog 125 [encPlan p, c.enc] [] (effR p c) (effO p c) := by
  have hwl : IntKind.i64.wrap ((p.length : Int) - 1) = (p.length : Int) - 1 := by have := v.len; exact wrap_i64 (by omega) (by omega)
  have hbs : betw c.street 0 ((p.length : Int) - 1) = true := betw_iff.2 (by have := f.street; omega)
  refine spec_body Tryz.func125 rfl (fun E hE => ?_); simp only [go_sem, Tryz.ntmps125]
  repeat' (first | (with_reducible (show runOps ..); first | (refine Qr rfl ?_; try intro K' hK; try simp only [go_sem, *]) | (refine Qi rfl rfl rfl rfl (fun hb K' hK => ?_) (fun hb => ?_) <;> (have hc := hb; try simp only [go_sem] at hc; simp only [go_sem, *]))) | (with_reducible (show Hold ..); first | refine Qh rfl ?_ | refine s_draw rfl Tryz.mixed (by kernel_rfl) ?_ | (refine s_cond rfl ⟨_, rfl, fun hb => ?_, fun hb => ?_⟩ <;> (have hc := hb; try simp only [go_sem] at hc)) | refine s_ret rfl ?_) | (with_reducible (show callA ..); first | ((first | refine call_s (sp_between _ _ _) ?_ ?_ | refine call_s (sp_effects) ?_ ?_); (focus (simp only [go_sem, *]; done)); simp only [go_sem, *]) | (refine call_n (sp_stay p v) ?_ ?_ ?_ ?_; (focus (simp only [go_sem, *]; done)); (focus (first | (simp; done) | (simp [go_sem]; done))); (focus (first | (simp; done) | (simp [go_sem]; done))); simp only [go_sem, *])) | ((with_reducible refine Qb ?_ ?_); focus kernel_rfl) | ((with_reducible refine And.intro ?_ ?_); focus omega) | (refine contA_of hK ?_; clear hK K'; simp only [go_sem, *]) | (simp only [thenA, inBlockA, go_sem, *]))
  refine call_of [2] [] (sp_courted p c v f k) (by simp) (by simp only [go_sem, *]) (by simp only [go_sem, AObj.live, *]) (by simp) (.inl rfl) (by simp [go_sem]) (by simp [outM]; split <;> simp) ?_
  simp only [go_sem, *]
  repeat' (first | (with_reducible (show runOps ..); first | (refine Qr rfl ?_; try intro K' hK; try simp only [go_sem, *]) | (refine Qi rfl rfl rfl rfl (fun hb K' hK => ?_) (fun hb => ?_) <;> (have hc := hb; try simp only [go_sem] at hc; simp only [go_sem, *]))) | (with_reducible (show Hold ..); first | refine Qh rfl ?_ | refine s_draw rfl Tryz.mixed (by kernel_rfl) ?_ | (refine s_cond rfl ⟨_, rfl, fun hb => ?_, fun hb => ?_⟩ <;> (have hc := hb; try simp only [go_sem] at hc)) | refine s_ret rfl ?_) | ((with_reducible refine Qb ?_ ?_); focus kernel_rfl) | ((with_reducible refine And.intro ?_ ?_); focus omega) | (refine contA_of hK ?_; clear hK K'; simp only [go_sem, *]) | (simp only [thenA, inBlockA, go_sem, *]))
  · have h : ¬ fitsE p c = 0 := by assumption
    have e1 : effR p c = .tup [.raw (.map none), iV (fitsE p c)] := by simp [effR, h]
    have e2 : effO p c = [] := by simp [effO, h]
    refine ⟨[_, _], [], [], ⟨rfl, rfl, trivial⟩, ?_⟩
    simp only [go_sem, e1, e2]
  · have h : fitsE p c = 0 := by assumption
    have e1 : effR p c = .tup [.mp 0, iV 0] := by simp [effR, h]
    have e2 : effO p c = [.mapo (keysP p) (movesP p (mv p c))] := by simp [effO, h]
    have e3 := outM_low h
    refine ⟨[_, _], [some 2], [], ⟨rfl, rfl, trivial⟩, ?_⟩
    simp only [go_sem, e1, e2, e3, AObj.ren]
end Go.Abs

namespace Go.Abs
open Go
section
variable {α : Type} (cf : α → α → Int)
def insR (x : α) : List α → List α
  | [] => [x]
  | y :: r => if cf x y < 0 then y :: insR x r else x :: y :: r
def insI (pre : List α) (x : α) : List α := (insR cf x pre.reverse).reverse
def isort (xs : List α) : List α := xs.foldl (insI cf) []
theorem insR_perm (x : α) : ∀ l : List α, (insR cf x l).Perm (x :: l)
  | [] => .refl _
  | y :: r => by
    unfold insR
    split
    · exact ((insR_perm x r).cons y).trans (.swap x y r)
    · exact .refl _
theorem insI_perm (pre : List α) (x : α) : (insI cf pre x).Perm (pre ++ [x]) := by
  unfold insI
  refine (List.reverse_perm _).trans ((insR_perm cf x _).trans ?_)
  exact ((List.reverse_perm pre).cons x).trans (List.perm_append_comm (l₁ := [x]) (l₂ := pre))
theorem isort_aux : ∀ (xs pre : List α), (xs.foldl (insI cf) pre).Perm (pre ++ xs)
  | [], pre => by simp
  | x :: r, pre => by
    rw [List.foldl_cons]
    refine (isort_aux r _).trans ?_
    refine ((insI_perm cf pre x).append_right r).trans ?_
    simp
theorem isort_perm (xs : List α) : (isort cf xs).Perm xs := by have := isort_aux cf xs []; simpa [isort] using this
theorem isort_length (xs : List α) : (isort cf xs).length = xs.length := (isort_perm cf xs).length_eq
theorem isort_snoc (xs : List α) (x : α) : isort cf (xs ++ [x]) = insI cf (isort cf xs) x := by simp [isort, List.foldl_append]
def curL (S : List α) (x : α) (R : List α) (d : Nat) : List α := S.take (S.length - d) ++ x :: (S.drop (S.length - d) ++ R)
theorem curL_length (S : List α) (x : α) (R : List α) (d : Nat) : (curL S x R d).length = S.length + 1 + R.length := by simp [curL]; omega
variable [Inhabited α]
theorem curL_x (S : List α) (x : α) (R : List α) {d : Nat} (h : d ≤ S.length) : (curL S x R d).getD (S.length - d) default = x := by
  unfold curL
  simp only [List.getD_eq_getElem?_getD]
  rw [List.getElem?_append_right (by simp)]
  simp [show min (S.length - d) S.length = S.length - d by omega]
theorem curL_y (S : List α) (x : α) (R : List α) {d : Nat} (h : d < S.length) : (curL S x R d).getD (S.length - d - 1) default = S.getD (S.length - d - 1) default := by
  unfold curL
  simp only [List.getD_eq_getElem?_getD]
  rw [List.getElem?_append_left (by simp; omega), List.getElem?_take, if_pos (by omega)]
theorem curL_swap (S : List α) (x : α) (R : List α) {d : Nat} (h : d < S.length) :
    ((curL S x R d).set (S.length - d) (S.getD (S.length - d - 1) default)).set (S.length - d - 1) x = curL S x R (d + 1) := by
  obtain ⟨j, hj⟩ : ∃ j, S.length - d = j + 1 := ⟨S.length - d - 1, by omega⟩
  have hj' : S.length - (d + 1) = j := by omega
  have hlt : j < S.length := by omega
  unfold curL
  rw [hj, hj']
  have e1 : S.take (j + 1) = S.take j ++ [S.getD j default] := by rw [List.take_add_one]; simp [List.getD, hlt]
  have e2 : S.drop j = S.getD j default :: S.drop (j + 1) := drop_cons hlt
  rw [e1, e2]
  simp only [Nat.add_sub_cancel]
  have hl : (S.take j).length = j := by simp; omega
  rw [List.append_assoc, List.set_append_right _ _ (by omega), hl]
  simp only [Nat.add_sub_cancel_left, List.singleton_append, List.set_cons_succ, List.set_cons_zero]
  rw [List.set_append_right _ _ (by omega), hl]
  simp
theorem insI_snoc_lt (pre : List α) (x y : α) (h : cf x y < 0) : insI cf (pre ++ [y]) x = insI cf pre x ++ [y] := by
  have _ := (default : α)
  unfold insI; simp [insR, h]
theorem insI_snoc_ge (pre : List α) (x y : α) (h : ¬ cf x y < 0) : insI cf (pre ++ [y]) x = pre ++ [y] ++ [x] := by
  have _ := (default : α)
  unfold insI; simp [insR, h]
theorem take_succ_getD' {l : List α} {i : Nat} (h : i < l.length) : l.take (i + 1) = l.take i ++ [l.getD i default] := by
  rw [List.take_add_one]; simp [List.getD, h]
def InsP (S : List α) (x : α) (R : List α) (cur : List α) (d : Nat) : Prop := cur = curL S x R d ∧ insI cf S x = insI cf (S.take (S.length - d)) x ++ S.drop (S.length - d)
theorem InsP.start (S : List α) (x : α) (R : List α) : InsP cf S x R (S ++ x :: R) 0 := by simp [InsP, curL]
theorem InsP.next {S : List α} {x : α} {R cur : List α} {d : Nat} (h : InsP cf S x R cur d) (hd : d < S.length) (hc : cf x (S.getD (S.length - d - 1) default) < 0) :
    InsP cf S x R ((cur.set (S.length - d) (S.getD (S.length - d - 1) default)).set (S.length - d - 1) x) (d + 1) := by
  obtain ⟨h1, h2⟩ := h
  refine ⟨by rw [h1, curL_swap S x R hd], ?_⟩
  obtain ⟨j, hj⟩ : ∃ j, S.length - d = j + 1 := ⟨S.length - d - 1, by omega⟩
  have hj' : S.length - (d + 1) = j := by omega
  have hlt : j < S.length := by omega
  have e1 : S.take (j + 1) = S.take j ++ [S.getD j default] := by rw [List.take_add_one]; simp [List.getD, hlt]
  have e2 : S.drop j = S.getD j default :: S.drop (j + 1) := drop_cons hlt
  rw [hj] at h2 hc
  simp only [Nat.add_sub_cancel] at hc
  rw [h2, hj', e1, insI_snoc_lt cf _ _ _ hc, e2, List.append_assoc]; rfl
theorem InsP.stop {S : List α} {x : α} {R cur : List α} {d : Nat} (h : InsP cf S x R cur d) (hd : d ≤ S.length) (hc : d < S.length → ¬ cf x (S.getD (S.length - d - 1) default) < 0) : cur = insI cf S x ++ R := by
  obtain ⟨h1, h2⟩ := h
  rw [h1, h2]
  unfold curL
  by_cases e : d = S.length
  · subst e; simp [insI, insR]
  · obtain ⟨j, hj⟩ : ∃ j, S.length - d = j + 1 := ⟨S.length - d - 1, by omega⟩
    have hlt : j < S.length := by omega
    have e1 : S.take (j + 1) = S.take j ++ [S.getD j default] := by rw [List.take_add_one]; simp [List.getD, hlt]
    have hc' := hc (by omega)
    rw [hj] at hc' ⊢
    simp only [Nat.add_sub_cancel] at hc'
    rw [e1, insI_snoc_ge cf _ _ _ hc']; simp
end
end Go.Abs

namespace Go.Abs
open Go Go.Proofs
set_option maxRecDepth 10000
theorem outP_start_Plate (cf : Plate → Plate → Int) (xs : List Plate) : xs = isort cf (xs.take 1) ++ xs.drop 1 := by
  cases xs with
  | nil => rfl
  | cons x r => simp [isort, insI, insR]
def OutP_Plate (cf : Plate → Plate → Int) (xs cur : List Plate) (i : Nat) : Prop := cur = isort cf (xs.take (i + 1)) ++ xs.drop (i + 1)
theorem sp_ins_Plate {f : Nat} {cf : Plate → Plate → Int} (hc : callable Tryz.prog f = true) (hf : ∀ a b : Plate, Spec Tryz.prog f [a.enc, b.enc] [] (iV (cf a b)) []) (xs : List Plate) (h1 : xs.length ≤ 12) :
    Spec Tryz.prog 176 [.own 0 2 0 xs.length, iV 0, iV xs.length, fnV f] [.row 2 (xs.map Plate.enc)] (.tup []) [.row 2 ((isort cf xs).map Plate.enc)] := by
  refine spec_body Tryz.func176 rfl (fun E hE => ?_); simp only [go_sem, Tryz.ntmps176]
  have hw0 : IntKind.i64.wrap 1 = (1 : Int) := wrap_i64 (by omega) (by omega)
  repeat' (first | (with_reducible (show runOps ..); first | (refine Qr rfl ?_; try intro K' hK; try simp only [go_sem, *]) | (refine Qi rfl rfl rfl rfl (fun hb K' hK => ?_) (fun hb => ?_) <;> (have hc := hb; try simp only [go_sem] at hc; simp only [go_sem, *]))) | (with_reducible (show Hold ..); first | refine Qh rfl ?_ | refine s_draw rfl Tryz.mixed (by kernel_rfl) ?_ | (refine s_cond rfl ⟨_, rfl, fun hb => ?_, fun hb => ?_⟩ <;> (have hc := hb; try simp only [go_sem] at hc)) | refine s_ret rfl ?_) | ((with_reducible refine Qb ?_ ?_); focus kernel_rfl) | ((with_reducible refine And.intro ?_ ?_); focus omega) | (refine contA_of hK ?_; clear hK K'; simp only [go_sem, *]) | (simp only [thenA, inBlockA, go_sem, *]))
  refine s_loop rfl (fun zn zN zenv zAs => ∃ (i : Nat) (cur : List Plate), zn = (xs.length) - i ∧ i ≤ (xs.length) ∧ (OutP_Plate cf xs cur i) ∧ zN = 53 ∧ zenv = [(8, iV ((i : Int) + 1)), (0, .own 0 2 0 xs.length), (1, iV 0), (2, iV xs.length), (3, fnV f)] ∧ zAs = [.row 2 (cur.map Plate.enc)]) (xs.length) ⟨[some 0], [], _, _, _, (by (simp only [Weak, go_sem, List.map_append, List.map_set, *] <;> (try simp (disch := omega) only [wrap_succ]) <;> (try simp) <;> (try omega))), 0, xs, (by simp), (by simp), (by exact outP_start_Plate cf xs), rfl, rfl, rfl⟩ ?_; rintro _ _ _ _ ⟨i, cur, rfl, hi, hP, rfl, rfl, rfl⟩
  have hw : i < xs.length → IntKind.i64.wrap ((i : Int) + 1 + 1) = (((i + 1 : Nat) : Int) + 1) := fun h => by rw [wrap_i64 (by omega) (by omega)]; omega
  have hcm : ((i : Int) + 1 < (xs.length : Int)) = (i + 1 < xs.length) := by simp only [eq_iff_iff]; omega
  repeat' (first | (with_reducible (show runOps ..); first | (refine Qr rfl ?_; try intro K' hK; try simp only [go_sem, *]) | (refine Qi rfl rfl rfl rfl (fun hb K' hK => ?_) (fun hb => ?_) <;> (have hc := hb; try simp only [go_sem] at hc; simp only [go_sem, *]))) | (with_reducible (show Hold ..); first | refine Qh rfl ?_ | refine s_draw rfl Tryz.mixed (by kernel_rfl) ?_ | (refine s_cond rfl ⟨_, rfl, fun hb => ?_, fun hb => ?_⟩ <;> (have hc := hb; try simp only [go_sem] at hc)) | refine s_ret rfl ?_) | ((with_reducible refine Qb ?_ ?_); focus kernel_rfl) | ((with_reducible refine And.intro ?_ ?_); focus omega) | (refine contA_of hK ?_; clear hK K'; simp only [go_sem, *]) | (simp only [thenA, inBlockA, go_sem, *]))
  · have hlt : i + 1 < xs.length := by assumption
    have hlt' : i < xs.length := by omega
    obtain ⟨S, hS⟩ : ∃ S, S = isort cf (xs.take (i + 1)) := ⟨_, rfl⟩
    have hSl : S.length = i + 1 := by rw [hS, isort_length]; simp; try omega
    obtain ⟨x, hx⟩ : ∃ x, x = xs.getD (i + 1) default := ⟨_, rfl⟩
    obtain ⟨R, hR⟩ : ∃ R, R = xs.drop (i + 1 + 1) := ⟨_, rfl⟩
    have hcur : cur = S ++ x :: R := by
      unfold OutP_Plate at hP
      rw [hP, hS, hx, hR, drop_cons hlt]
    have hfin : insI cf S x ++ R = isort cf (xs.take (i + 1 + 1)) ++ xs.drop (i + 1 + 1) := by
      rw [hS, hx, hR, take_succ_getD' hlt, isort_snoc]
    have hst : InsP cf S x R cur 0 := by rw [hcur]; exact InsP.start cf S x R
    have hRl : R.length = xs.length - (i + 2) := by rw [hR]; simp; try omega
    clear hS hx hR hcur hP
    refine s_loop rfl (fun zn zN zenv zAs => ∃ (d : Nat) (cur : List Plate), zn = (i + 1) - d ∧ d ≤ (i + 1) ∧ (InsP cf S x R cur d) ∧ zN = 53 ∧ zenv = [(9, iV (((i + 1) - d : Nat) : Int)), (8, iV ((i : Int) + 1)), (0, .own 0 2 0 xs.length), (1, iV 0), (2, iV xs.length), (3, fnV f)] ∧ zAs = [.row 2 (cur.map Plate.enc)]) (i + 1) ⟨[some 0], [], _, _, _, (by (simp only [Weak, go_sem, List.map_append, List.map_set, *] <;> (try simp (disch := omega) only [wrap_succ]) <;> (try simp) <;> (try omega))), 0, cur, (by simp), (by simp), (by exact hst), rfl, rfl, rfl⟩ ?_; rintro _ _ _ _ ⟨d, cur, rfl, hd, hQ, rfl, rfl, rfl⟩
    have hcl : cur.length = xs.length := by rw [hQ.1, curL_length]; omega
    have gx : cur.getD (i + 1 - d) default = x := by rw [hQ.1, ← hSl]; exact curL_x S x R (by omega)
    have gy : d < i + 1 → cur.getD (i + 1 - d - 1) default = S.getD (i + 1 - d - 1) default := fun h => by rw [hQ.1, ← hSl]; exact curL_y S x R (by omega)
    have hwk : 0 < i + 1 - d → IntKind.i64.wrap (((i + 1 - d : Nat) : Int) - 1) = ((i + 1 - d - 1 : Nat) : Int) := fun h => by rw [wrap_i64 (by omega) (by omega)]; omega
    have hnx : i + 1 - (d + 1) = i + 1 - d - 1 := by omega
    have hkl : i + 1 - d < xs.length := by omega
    have hkl1 : i + 1 - d - 1 < xs.length := by omega
    have hd1 : 0 < i + 1 - d → d < i + 1 := fun h => by omega
    repeat' (first | (with_reducible (show runOps ..); first | (refine Qr rfl ?_; try intro K' hK; try simp only [go_sem, *]) | (refine Qi rfl rfl rfl rfl (fun hb K' hK => ?_) (fun hb => ?_) <;> (have hc := hb; try simp only [go_sem] at hc; simp only [go_sem, *]))) | (with_reducible (show Hold ..); first | refine Qh rfl ?_ | refine s_draw rfl Tryz.mixed (by kernel_rfl) ?_ | (refine s_cond rfl ⟨_, rfl, fun hb => ?_, fun hb => ?_⟩ <;> (have hc := hb; try simp only [go_sem] at hc)) | refine s_ret rfl ?_) | (with_reducible (show callA ..); first | (refine call_s (hf _ _) ?_ ?_; (focus (simp only [go_sem, *]; done)); simp only [go_sem, *])) | ((with_reducible refine Qb ?_ ?_); focus kernel_rfl) | ((with_reducible refine And.intro ?_ ?_); focus omega) | (refine contA_of hK ?_; clear hK K'; simp only [go_sem, *]) | (simp only [thenA, inBlockA, go_sem, *]))
    · refine ⟨_, (by omega), [some 0], [], _, _, _, (by (simp only [Weak, go_sem, List.map_append, List.map_set, *] <;> (try simp (disch := omega) only [wrap_succ]) <;> (try simp) <;> (try omega))), d + 1, (cur.set (i + 1 - d) (S.getD (i + 1 - d - 1) default)).set (i + 1 - d - 1) x, rfl, (by omega), (by have := InsP.next cf hQ (by omega) (by rw [hSl]; assumption); rwa [hSl] at this), rfl, rfl, rfl⟩
    · have hs := InsP.stop cf hQ (by omega) (fun _ => by rw [hSl]; omega)
      refine ⟨_, (by omega), [some 0], [], _, _, _, (by (simp only [Weak, go_sem, List.map_append, List.map_set, *] <;> (try simp (disch := omega) only [wrap_succ]) <;> (try simp) <;> (try omega))), i + 1, cur, rfl, (by omega), (by rw [hs]; exact hfin), rfl, rfl, rfl⟩
    · have hs := InsP.stop cf hQ (by omega) (fun h => by omega)
      refine ⟨_, (by omega), [some 0], [], _, _, _, (by (simp only [Weak, go_sem, List.map_append, List.map_set, *] <;> (try simp (disch := omega) only [wrap_succ]) <;> (try simp) <;> (try omega))), i + 1, cur, rfl, (by omega), (by rw [hs]; exact hfin), rfl, rfl, rfl⟩
  · refine ⟨[], [some 0], [], trivial, ?_⟩
    have e1 : xs.take (i + 1) = xs := List.take_of_length_le (by omega)
    have e2 : xs.drop (i + 1) = [] := drop_end (by omega)
    unfold OutP_Plate at hP
    rw [e1, e2, List.append_nil] at hP
    rw [hP]
    simp only [go_sem, packR, *]
end Go.Abs

namespace Go.Abs
open Go Go.Proofs
set_option maxRecDepth 10000
theorem outP_start_House (cf : House → House → Int) (xs : List House) : xs = isort cf (xs.take 1) ++ xs.drop 1 := by
  cases xs with
  | nil => rfl
  | cons x r => simp [isort, insI, insR]
def OutP_House (cf : House → House → Int) (xs cur : List House) (i : Nat) : Prop := cur = isort cf (xs.take (i + 1)) ++ xs.drop (i + 1)
theorem sp_ins_House {f : Nat} {cf : House → House → Int} (hc : callable Tryz.prog f = true) (hf : ∀ a b : House, Spec Tryz.prog f [a.enc, b.enc] [] (iV (cf a b)) []) (xs : List House) (h1 : xs.length ≤ 12) :
    Spec Tryz.prog 186 [.own 0 3 0 xs.length, iV 0, iV xs.length, fnV f] [.row 3 (xs.map House.enc)] (.tup []) [.row 3 ((isort cf xs).map House.enc)] := by
  refine spec_body Tryz.func186 rfl (fun E hE => ?_); simp only [go_sem, Tryz.ntmps186]
  have hw0 : IntKind.i64.wrap 1 = (1 : Int) := wrap_i64 (by omega) (by omega)
  repeat' (first | (with_reducible (show runOps ..); first | (refine Qr rfl ?_; try intro K' hK; try simp only [go_sem, *]) | (refine Qi rfl rfl rfl rfl (fun hb K' hK => ?_) (fun hb => ?_) <;> (have hc := hb; try simp only [go_sem] at hc; simp only [go_sem, *]))) | (with_reducible (show Hold ..); first | refine Qh rfl ?_ | refine s_draw rfl Tryz.mixed (by kernel_rfl) ?_ | (refine s_cond rfl ⟨_, rfl, fun hb => ?_, fun hb => ?_⟩ <;> (have hc := hb; try simp only [go_sem] at hc)) | refine s_ret rfl ?_) | ((with_reducible refine Qb ?_ ?_); focus kernel_rfl) | ((with_reducible refine And.intro ?_ ?_); focus omega) | (refine contA_of hK ?_; clear hK K'; simp only [go_sem, *]) | (simp only [thenA, inBlockA, go_sem, *]))
  refine s_loop rfl (fun zn zN zenv zAs => ∃ (i : Nat) (cur : List House), zn = (xs.length) - i ∧ i ≤ (xs.length) ∧ (OutP_House cf xs cur i) ∧ zN = 53 ∧ zenv = [(8, iV ((i : Int) + 1)), (0, .own 0 3 0 xs.length), (1, iV 0), (2, iV xs.length), (3, fnV f)] ∧ zAs = [.row 3 (cur.map House.enc)]) (xs.length) ⟨[some 0], [], _, _, _, (by (simp only [Weak, go_sem, List.map_append, List.map_set, *] <;> (try simp (disch := omega) only [wrap_succ]) <;> (try simp) <;> (try omega))), 0, xs, (by simp), (by simp), (by exact outP_start_House cf xs), rfl, rfl, rfl⟩ ?_; rintro _ _ _ _ ⟨i, cur, rfl, hi, hP, rfl, rfl, rfl⟩
  have hw : i < xs.length → IntKind.i64.wrap ((i : Int) + 1 + 1) = (((i + 1 : Nat) : Int) + 1) := fun h => by rw [wrap_i64 (by omega) (by omega)]; omega
  have hcm : ((i : Int) + 1 < (xs.length : Int)) = (i + 1 < xs.length) := by simp only [eq_iff_iff]; omega
  repeat' (first | (with_reducible (show runOps ..); first | (refine Qr rfl ?_; try intro K' hK; try simp only [go_sem, *]) | (refine Qi rfl rfl rfl rfl (fun hb K' hK => ?_) (fun hb => ?_) <;> (have hc := hb; try simp only [go_sem] at hc; simp only [go_sem, *]))) | (with_reducible (show Hold ..); first | refine Qh rfl ?_ | refine s_draw rfl Tryz.mixed (by kernel_rfl) ?_ | (refine s_cond rfl ⟨_, rfl, fun hb => ?_, fun hb => ?_⟩ <;> (have hc := hb; try simp only [go_sem] at hc)) | refine s_ret rfl ?_) | ((with_reducible refine Qb ?_ ?_); focus kernel_rfl) | ((with_reducible refine And.intro ?_ ?_); focus omega) | (refine contA_of hK ?_; clear hK K'; simp only [go_sem, *]) | (simp only [thenA, inBlockA, go_sem, *]))
  · have hlt : i + 1 < xs.length := by assumption
    have hlt' : i < xs.length := by omega
    obtain ⟨S, hS⟩ : ∃ S, S = isort cf (xs.take (i + 1)) := ⟨_, rfl⟩
    have hSl : S.length = i + 1 := by rw [hS, isort_length]; simp; try omega
    obtain ⟨x, hx⟩ : ∃ x, x = xs.getD (i + 1) default := ⟨_, rfl⟩
    obtain ⟨R, hR⟩ : ∃ R, R = xs.drop (i + 1 + 1) := ⟨_, rfl⟩
    have hcur : cur = S ++ x :: R := by
      unfold OutP_House at hP
      rw [hP, hS, hx, hR, drop_cons hlt]
    have hfin : insI cf S x ++ R = isort cf (xs.take (i + 1 + 1)) ++ xs.drop (i + 1 + 1) := by
      rw [hS, hx, hR, take_succ_getD' hlt, isort_snoc]
    have hst : InsP cf S x R cur 0 := by rw [hcur]; exact InsP.start cf S x R
    have hRl : R.length = xs.length - (i + 2) := by rw [hR]; simp; try omega
    clear hS hx hR hcur hP
    refine s_loop rfl (fun zn zN zenv zAs => ∃ (d : Nat) (cur : List House), zn = (i + 1) - d ∧ d ≤ (i + 1) ∧ (InsP cf S x R cur d) ∧ zN = 53 ∧ zenv = [(9, iV (((i + 1) - d : Nat) : Int)), (8, iV ((i : Int) + 1)), (0, .own 0 3 0 xs.length), (1, iV 0), (2, iV xs.length), (3, fnV f)] ∧ zAs = [.row 3 (cur.map House.enc)]) (i + 1) ⟨[some 0], [], _, _, _, (by (simp only [Weak, go_sem, List.map_append, List.map_set, *] <;> (try simp (disch := omega) only [wrap_succ]) <;> (try simp) <;> (try omega))), 0, cur, (by simp), (by simp), (by exact hst), rfl, rfl, rfl⟩ ?_; rintro _ _ _ _ ⟨d, cur, rfl, hd, hQ, rfl, rfl, rfl⟩
    have hcl : cur.length = xs.length := by rw [hQ.1, curL_length]; omega
    have gx : cur.getD (i + 1 - d) default = x := by rw [hQ.1, ← hSl]; exact curL_x S x R (by omega)
    have gy : d < i + 1 → cur.getD (i + 1 - d - 1) default = S.getD (i + 1 - d - 1) default := fun h => by rw [hQ.1, ← hSl]; exact curL_y S x R (by omega)
    have hwk : 0 < i + 1 - d → IntKind.i64.wrap (((i + 1 - d : Nat) : Int) - 1) = ((i + 1 - d - 1 : Nat) : Int) := fun h => by rw [wrap_i64 (by omega) (by omega)]; omega
    have hnx : i + 1 - (d + 1) = i + 1 - d - 1 := by omega
    have hkl : i + 1 - d < xs.length := by omega
    have hkl1 : i + 1 - d - 1 < xs.length := by omega
    have hd1 : 0 < i + 1 - d → d < i + 1 := fun h => by omega
    repeat' (first | (with_reducible (show runOps ..); first | (refine Qr rfl ?_; try intro K' hK; try simp only [go_sem, *]) | (refine Qi rfl rfl rfl rfl (fun hb K' hK => ?_) (fun hb => ?_) <;> (have hc := hb; try simp only [go_sem] at hc; simp only [go_sem, *]))) | (with_reducible (show Hold ..); first | refine Qh rfl ?_ | refine s_draw rfl Tryz.mixed (by kernel_rfl) ?_ | (refine s_cond rfl ⟨_, rfl, fun hb => ?_, fun hb => ?_⟩ <;> (have hc := hb; try simp only [go_sem] at hc)) | refine s_ret rfl ?_) | (with_reducible (show callA ..); first | (refine call_s (hf _ _) ?_ ?_; (focus (simp only [go_sem, *]; done)); simp only [go_sem, *])) | ((with_reducible refine Qb ?_ ?_); focus kernel_rfl) | ((with_reducible refine And.intro ?_ ?_); focus omega) | (refine contA_of hK ?_; clear hK K'; simp only [go_sem, *]) | (simp only [thenA, inBlockA, go_sem, *]))
    · refine ⟨_, (by omega), [some 0], [], _, _, _, (by (simp only [Weak, go_sem, List.map_append, List.map_set, *] <;> (try simp (disch := omega) only [wrap_succ]) <;> (try simp) <;> (try omega))), d + 1, (cur.set (i + 1 - d) (S.getD (i + 1 - d - 1) default)).set (i + 1 - d - 1) x, rfl, (by omega), (by have := InsP.next cf hQ (by omega) (by rw [hSl]; assumption); rwa [hSl] at this), rfl, rfl, rfl⟩
    · have hs := InsP.stop cf hQ (by omega) (fun _ => by rw [hSl]; omega)
      refine ⟨_, (by omega), [some 0], [], _, _, _, (by (simp only [Weak, go_sem, List.map_append, List.map_set, *] <;> (try simp (disch := omega) only [wrap_succ]) <;> (try simp) <;> (try omega))), i + 1, cur, rfl, (by omega), (by rw [hs]; exact hfin), rfl, rfl, rfl⟩
    · have hs := InsP.stop cf hQ (by omega) (fun h => by omega)
      refine ⟨_, (by omega), [some 0], [], _, _, _, (by (simp only [Weak, go_sem, List.map_append, List.map_set, *] <;> (try simp (disch := omega) only [wrap_succ]) <;> (try simp) <;> (try omega))), i + 1, cur, rfl, (by omega), (by rw [hs]; exact hfin), rfl, rfl, rfl⟩
  · refine ⟨[], [some 0], [], trivial, ?_⟩
    have e1 : xs.take (i + 1) = xs := List.take_of_length_le (by omega)
    have e2 : xs.drop (i + 1) = [] := drop_end (by omega)
    unfold OutP_House at hP
    rw [e1, e2, List.append_nil] at hP
    rw [hP]
    simp only [go_sem, packR, *]
end Go.Abs

namespace Go.Abs
open Go Go.Proofs
set_option maxRecDepth 10000
theorem wrap_u64 {n : Int} (h0 : 0 ≤ n) (h1 : n ≤ 1000) : IntKind.u64.wrap n = n := by
  simp [IntKind.wrap, IntKind.signed, IntKind.bits]; omega
theorem wrap_u8 {n : Int} (h0 : 0 ≤ n) (h1 : n ≤ 200) : IntKind.u8.wrap n = n := by
  simp [IntKind.wrap, IntKind.signed, IntKind.bits]; omega
theorem sp_Len64 (n : Nat) (h : n ≤ 12) : Spec Tryz.prog 185 [.raw (.int .u64 n)] [] .any [] := by
  have hw8 : IntKind.u8.wrap (n : Int) = (n : Int) := wrap_u8 (by omega) (by omega)
  have h1 : ((4294967296 : Int) ≤ (n : Int)) = False := by simp only [eq_iff_iff, iff_false]; omega
  have h2 : ((65536 : Int) ≤ (n : Int)) = False := by simp only [eq_iff_iff, iff_false]; omega
  have h3 : ((256 : Int) ≤ (n : Int)) = False := by simp only [eq_iff_iff, iff_false]; omega
  refine spec_body Tryz.func185 rfl (fun E hE => ?_); simp only [go_sem, Tryz.ntmps185]
  repeat' (first | (with_reducible (show runOps ..); first | (refine Qr rfl ?_; try intro K' hK; try simp only [go_sem, *])) | (with_reducible (show Hold ..); first | refine Qh rfl ?_ | (refine s_cond rfl ⟨_, rfl, fun hb => ?_, fun hb => ?_⟩ <;> (have hc := hb; try simp only [go_sem] at hc)) | refine s_ret rfl ?_) | ((with_reducible refine Qb ?_ ?_); focus kernel_rfl) | ((with_reducible refine And.intro ?_ ?_); focus omega) | (refine contA_of hK ?_; clear hK K'; simp only [go_sem, *]) | (simp only [thenA, inBlockA, go_sem, *]))
  refine ⟨Nat.lt_of_le_of_lt h (by decide), ?_⟩
  repeat' (first | (with_reducible (show runOps ..); first | (refine Qr rfl ?_; try intro K' hK; try simp only [go_sem, *])) | (with_reducible (show Hold ..); first | refine Qh rfl ?_ | (refine s_cond rfl ⟨_, rfl, fun hb => ?_, fun hb => ?_⟩ <;> (have hc := hb; try simp only [go_sem] at hc)) | refine s_ret rfl ?_) | ((with_reducible refine Qb ?_ ?_); focus kernel_rfl) | ((with_reducible refine And.intro ?_ ?_); focus omega) | (refine contA_of hK ?_; clear hK K'; simp only [go_sem, *]) | (simp only [thenA, inBlockA, go_sem, *]))
  all_goals (refine ⟨[_], [], [], ⟨rfl, trivial⟩, ?_⟩; simp only [go_sem])
theorem sp_bitsLen (n : Nat) (h : n ≤ 12) : Spec Tryz.prog 154 [.raw (.int .u64 n)] [] .any [] := by
  refine spec_body Tryz.func154 rfl (fun E hE => ?_); simp only [go_sem, Tryz.ntmps154]
  repeat' (first | (with_reducible (show runOps ..); first | (refine Qr rfl ?_; try intro K' hK; try simp only [go_sem, *])) | (with_reducible (show Hold ..); first | refine Qh rfl ?_ | (refine s_cond rfl ⟨_, rfl, fun hb => ?_, fun hb => ?_⟩ <;> (have hc := hb; try simp only [go_sem] at hc)) | refine s_ret rfl ?_) | (with_reducible (show callA ..); first | (refine call_s (sp_Len64 n h) ?_ ?_; (focus (simp only [go_sem, *]; done)); simp only [go_sem, *])) | ((with_reducible refine Qb ?_ ?_); focus kernel_rfl) | ((with_reducible refine And.intro ?_ ?_); focus omega) | (refine contA_of hK ?_; clear hK K'; simp only [go_sem, *]) | (simp only [thenA, inBlockA, go_sem, *]))
  all_goals (refine ⟨[_], [], [], ⟨rfl, trivial⟩, ?_⟩; simp only [go_sem])
end Go.Abs

namespace Go.Abs
open Go Go.Proofs
set_option maxRecDepth 10000
theorem sp_pdq_Plate {f : Nat} {cf : Plate → Plate → Int} (hcal : callable Tryz.prog f = true) (hf : ∀ a b : Plate, Spec Tryz.prog f [a.enc, b.enc] [] (iV (cf a b)) []) (xs : List Plate) (h1 : xs.length ≤ 12) :
    Spec Tryz.prog 153 [.own 0 2 0 xs.length, iV 0, iV xs.length, .any, fnV f] [.row 2 (xs.map Plate.enc)] (.tup []) [.row 2 ((isort cf xs).map Plate.enc)] := by
  have hw : IntKind.i64.wrap ((xs.length : Int) - 0) = (xs.length : Int) := by rw [wrap_i64 (by omega) (by omega)]; omega
  have h12 : ((xs.length : Int) ≤ 12) = True := by simp only [eq_iff_iff, iff_true]; omega
  refine spec_body Tryz.func153 rfl (fun E hE => ?_); simp only [go_sem, Tryz.ntmps153]
  repeat' (first | (with_reducible (show runOps ..); first | (refine Qr rfl ?_; try intro K' hK; try simp only [go_sem, *]) | (refine Qi rfl rfl rfl rfl (fun hb K' hK => ?_) (fun hb => ?_) <;> (have hc := hb; try simp only [go_sem] at hc; simp only [go_sem, *]))) | (with_reducible (show Hold ..); first | refine Qh rfl ?_ | refine s_draw rfl Tryz.mixed (by kernel_rfl) ?_ | (refine s_cond rfl ⟨_, rfl, fun hb => ?_, fun hb => ?_⟩ <;> (have hc := hb; try simp only [go_sem] at hc)) | refine s_ret rfl ?_) | ((with_reducible refine Qb ?_ ?_); focus kernel_rfl) | ((with_reducible refine And.intro ?_ ?_); focus omega) | (refine contA_of hK ?_; clear hK K'; simp only [go_sem, *]) | (simp only [thenA, inBlockA, go_sem, *]))
  refine s_loop rfl (fun zn zN zenv zAs => ∃ (i : Nat), zn = (1) - i ∧ i ≤ (1) ∧ (NoP i) ∧ zN = 148 ∧ zenv = [(0, .own 0 2 0 xs.length), (1, iV 0), (2, iV xs.length), (4, fnV f)] ∧ zAs = [.row 2 (xs.map Plate.enc)]) (1) ⟨[some 0], [], _, _, _, (by (simp only [Weak, go_sem, List.map_append, List.map_set, *] <;> (try simp (disch := omega) only [wrap_succ]) <;> (try simp) <;> (try omega))), 0, (by simp), (by simp), (by trivial), rfl, rfl, rfl⟩ ?_; rintro _ _ _ _ ⟨i, rfl, hi, hP, rfl, rfl, rfl⟩
  repeat' (first | (with_reducible (show runOps ..); first | (refine Qr rfl ?_; try intro K' hK; try simp only [go_sem, *]) | (refine Qi rfl rfl rfl rfl (fun hb K' hK => ?_) (fun hb => ?_) <;> (have hc := hb; try simp only [go_sem] at hc; simp only [go_sem, *]))) | (with_reducible (show Hold ..); first | refine Qh rfl ?_ | refine s_draw rfl Tryz.mixed (by kernel_rfl) ?_ | (refine s_cond rfl ⟨_, rfl, fun hb => ?_, fun hb => ?_⟩ <;> (have hc := hb; try simp only [go_sem] at hc)) | refine s_ret rfl ?_) | ((with_reducible refine Qb ?_ ?_); focus kernel_rfl) | ((with_reducible refine And.intro ?_ ?_); focus omega) | (refine contA_of hK ?_; clear hK K'; simp only [go_sem, *]) | (simp only [thenA, inBlockA, go_sem, *]))
  refine call_of [0] [] (sp_ins_Plate hcal hf xs h1) (by simp) (by simp only [go_sem, *]) (by simp only [go_sem, AObj.live, *]) (by simp) (.inl rfl) (by simp [go_sem]) (by simp) ?_
  simp only [go_sem, *]
  repeat' (first | (with_reducible (show runOps ..); first | (refine Qr rfl ?_; try intro K' hK; try simp only [go_sem, *]) | (refine Qi rfl rfl rfl rfl (fun hb K' hK => ?_) (fun hb => ?_) <;> (have hc := hb; try simp only [go_sem] at hc; simp only [go_sem, *]))) | (with_reducible (show Hold ..); first | refine Qh rfl ?_ | refine s_draw rfl Tryz.mixed (by kernel_rfl) ?_ | (refine s_cond rfl ⟨_, rfl, fun hb => ?_, fun hb => ?_⟩ <;> (have hc := hb; try simp only [go_sem] at hc)) | refine s_ret rfl ?_) | ((with_reducible refine Qb ?_ ?_); focus kernel_rfl) | ((with_reducible refine And.intro ?_ ?_); focus omega) | (refine contA_of hK ?_; clear hK K'; simp only [go_sem, *]) | (simp only [thenA, inBlockA, go_sem, *]))
  refine ⟨[], [some 0], [], trivial, ?_⟩
  simp only [go_sem, packR, AObj.ren, *]
theorem sp_SortFunc_Plate {f : Nat} {cf : Plate → Plate → Int} (hcal : callable Tryz.prog f = true) (hf : ∀ a b : Plate, Spec Tryz.prog f [a.enc, b.enc] [] (iV (cf a b)) []) (xs : List Plate) (h1 : xs.length ≤ 12) :
    Spec Tryz.prog 126 [.own 0 2 0 xs.length, fnV f] [.row 2 (xs.map Plate.enc)] (.tup []) [.row 2 ((isort cf xs).map Plate.enc)] := by
  have hw : IntKind.u64.wrap (xs.length : Int) = (xs.length : Int) := wrap_u64 (by omega) (by omega)
  refine spec_body Tryz.func126 rfl (fun E hE => ?_); simp only [go_sem, Tryz.ntmps126]
  repeat' (first | (with_reducible (show runOps ..); first | (refine Qr rfl ?_; try intro K' hK; try simp only [go_sem, *])) | (with_reducible (show Hold ..); first | refine Qh rfl ?_ | (refine s_cond rfl ⟨_, rfl, fun hb => ?_, fun hb => ?_⟩ <;> (have hc := hb; try simp only [go_sem] at hc)) | refine s_ret rfl ?_) | (with_reducible (show callA ..); first | (refine call_s (sp_bitsLen xs.length h1) ?_ ?_; (focus (simp only [go_sem, *]; done)); simp only [go_sem, *])) | ((with_reducible refine Qb ?_ ?_); focus kernel_rfl) | ((with_reducible refine And.intro ?_ ?_); focus omega) | (refine contA_of hK ?_; clear hK K'; simp only [go_sem, *]) | (simp only [thenA, inBlockA, go_sem, *]))
  refine call_of [0] [] (sp_pdq_Plate hcal hf xs h1) (by simp) (by simp only [go_sem, *]) (by simp only [go_sem, AObj.live, *]) (by simp) (.inl rfl) (by simp [go_sem]) (by simp) ?_
  simp only [go_sem, *]
  repeat' (first | (with_reducible (show runOps ..); first | (refine Qr rfl ?_; try intro K' hK; try simp only [go_sem, *])) | (with_reducible (show Hold ..); first | refine Qh rfl ?_ | (refine s_cond rfl ⟨_, rfl, fun hb => ?_, fun hb => ?_⟩ <;> (have hc := hb; try simp only [go_sem] at hc)) | refine s_ret rfl ?_) | ((with_reducible refine Qb ?_ ?_); focus kernel_rfl) | ((with_reducible refine And.intro ?_ ?_); focus omega) | (refine contA_of hK ?_; clear hK K'; simp only [go_sem, *]) | (simp only [thenA, inBlockA, go_sem, *]))
  refine ⟨[], [some 0], [], trivial, ?_⟩
  simp only [go_sem, packR, AObj.ren, *]
end Go.Abs

namespace Go.Abs
open Go Go.Proofs
set_option maxRecDepth 10000
theorem sp_pdq_House {f : Nat} {cf : House → House → Int} (hcal : callable Tryz.prog f = true) (hf : ∀ a b : House, Spec Tryz.prog f [a.enc, b.enc] [] (iV (cf a b)) []) (xs : List House) (h1 : xs.length ≤ 12) :
    Spec Tryz.prog 159 [.own 0 3 0 xs.length, iV 0, iV xs.length, .any, fnV f] [.row 3 (xs.map House.enc)] (.tup []) [.row 3 ((isort cf xs).map House.enc)] := by
  have hw : IntKind.i64.wrap ((xs.length : Int) - 0) = (xs.length : Int) := by rw [wrap_i64 (by omega) (by omega)]; omega
  have h12 : ((xs.length : Int) ≤ 12) = True := by simp only [eq_iff_iff, iff_true]; omega
  refine spec_body Tryz.func159 rfl (fun E hE => ?_); simp only [go_sem, Tryz.ntmps159]
  repeat' (first | (with_reducible (show runOps ..); first | (refine Qr rfl ?_; try intro K' hK; try simp only [go_sem, *]) | (refine Qi rfl rfl rfl rfl (fun hb K' hK => ?_) (fun hb => ?_) <;> (have hc := hb; try simp only [go_sem] at hc; simp only [go_sem, *]))) | (with_reducible (show Hold ..); first | refine Qh rfl ?_ | refine s_draw rfl Tryz.mixed (by kernel_rfl) ?_ | (refine s_cond rfl ⟨_, rfl, fun hb => ?_, fun hb => ?_⟩ <;> (have hc := hb; try simp only [go_sem] at hc)) | refine s_ret rfl ?_) | ((with_reducible refine Qb ?_ ?_); focus kernel_rfl) | ((with_reducible refine And.intro ?_ ?_); focus omega) | (refine contA_of hK ?_; clear hK K'; simp only [go_sem, *]) | (simp only [thenA, inBlockA, go_sem, *]))
  refine s_loop rfl (fun zn zN zenv zAs => ∃ (i : Nat), zn = (1) - i ∧ i ≤ (1) ∧ (NoP i) ∧ zN = 148 ∧ zenv = [(0, .own 0 3 0 xs.length), (1, iV 0), (2, iV xs.length), (4, fnV f)] ∧ zAs = [.row 3 (xs.map House.enc)]) (1) ⟨[some 0], [], _, _, _, (by (simp only [Weak, go_sem, List.map_append, List.map_set, *] <;> (try simp (disch := omega) only [wrap_succ]) <;> (try simp) <;> (try omega))), 0, (by simp), (by simp), (by trivial), rfl, rfl, rfl⟩ ?_; rintro _ _ _ _ ⟨i, rfl, hi, hP, rfl, rfl, rfl⟩
  repeat' (first | (with_reducible (show runOps ..); first | (refine Qr rfl ?_; try intro K' hK; try simp only [go_sem, *]) | (refine Qi rfl rfl rfl rfl (fun hb K' hK => ?_) (fun hb => ?_) <;> (have hc := hb; try simp only [go_sem] at hc; simp only [go_sem, *]))) | (with_reducible (show Hold ..); first | refine Qh rfl ?_ | refine s_draw rfl Tryz.mixed (by kernel_rfl) ?_ | (refine s_cond rfl ⟨_, rfl, fun hb => ?_, fun hb => ?_⟩ <;> (have hc := hb; try simp only [go_sem] at hc)) | refine s_ret rfl ?_) | ((with_reducible refine Qb ?_ ?_); focus kernel_rfl) | ((with_reducible refine And.intro ?_ ?_); focus omega) | (refine contA_of hK ?_; clear hK K'; simp only [go_sem, *]) | (simp only [thenA, inBlockA, go_sem, *]))
  refine call_of [0] [] (sp_ins_House hcal hf xs h1) (by simp) (by simp only [go_sem, *]) (by simp only [go_sem, AObj.live, *]) (by simp) (.inl rfl) (by simp [go_sem]) (by simp) ?_
  simp only [go_sem, *]
  repeat' (first | (with_reducible (show runOps ..); first | (refine Qr rfl ?_; try intro K' hK; try simp only [go_sem, *]) | (refine Qi rfl rfl rfl rfl (fun hb K' hK => ?_) (fun hb => ?_) <;> (have hc := hb; try simp only [go_sem] at hc; simp only [go_sem, *]))) | (with_reducible (show Hold ..); first | refine Qh rfl ?_ | refine s_draw rfl Tryz.mixed (by kernel_rfl) ?_ | (refine s_cond rfl ⟨_, rfl, fun hb => ?_, fun hb => ?_⟩ <;> (have hc := hb; try simp only [go_sem] at hc)) | refine s_ret rfl ?_) | ((with_reducible refine Qb ?_ ?_); focus kernel_rfl) | ((with_reducible refine And.intro ?_ ?_); focus omega) | (refine contA_of hK ?_; clear hK K'; simp only [go_sem, *]) | (simp only [thenA, inBlockA, go_sem, *]))
  refine ⟨[], [some 0], [], trivial, ?_⟩
  simp only [go_sem, packR, AObj.ren, *]
theorem sp_SortFunc_House {f : Nat} {cf : House → House → Int} (hcal : callable Tryz.prog f = true) (hf : ∀ a b : House, Spec Tryz.prog f [a.enc, b.enc] [] (iV (cf a b)) []) (xs : List House) (h1 : xs.length ≤ 12) :
    Spec Tryz.prog 135 [.own 0 3 0 xs.length, fnV f] [.row 3 (xs.map House.enc)] (.tup []) [.row 3 ((isort cf xs).map House.enc)] := by
  have hw : IntKind.u64.wrap (xs.length : Int) = (xs.length : Int) := wrap_u64 (by omega) (by omega)
  refine spec_body Tryz.func135 rfl (fun E hE => ?_); simp only [go_sem, Tryz.ntmps135]
  repeat' (first | (with_reducible (show runOps ..); first | (refine Qr rfl ?_; try intro K' hK; try simp only [go_sem, *])) | (with_reducible (show Hold ..); first | refine Qh rfl ?_ | (refine s_cond rfl ⟨_, rfl, fun hb => ?_, fun hb => ?_⟩ <;> (have hc := hb; try simp only [go_sem] at hc)) | refine s_ret rfl ?_) | (with_reducible (show callA ..); first | (refine call_s (sp_bitsLen xs.length h1) ?_ ?_; (focus (simp only [go_sem, *]; done)); simp only [go_sem, *])) | ((with_reducible refine Qb ?_ ?_); focus kernel_rfl) | ((with_reducible refine And.intro ?_ ?_); focus omega) | (refine contA_of hK ?_; clear hK K'; simp only [go_sem, *]) | (simp only [thenA, inBlockA, go_sem, *]))
  refine call_of [0] [] (sp_pdq_House hcal hf xs h1) (by simp) (by simp only [go_sem, *]) (by simp only [go_sem, AObj.live, *]) (by simp) (.inl rfl) (by simp [go_sem]) (by simp) ?_
  simp only [go_sem, *]
  repeat' (first | (with_reducible (show runOps ..); first | (refine Qr rfl ?_; try intro K' hK; try simp only [go_sem, *])) | (with_reducible (show Hold ..); first | refine Qh rfl ?_ | (refine s_cond rfl ⟨_, rfl, fun hb => ?_, fun hb => ?_⟩ <;> (have hc := hb; try simp only [go_sem] at hc)) | refine s_ret rfl ?_) | ((with_reducible refine Qb ?_ ?_); focus kernel_rfl) | ((with_reducible refine And.intro ?_ ?_); focus omega) | (refine contA_of hK ?_; clear hK K'; simp only [go_sem, *]) | (simp only [thenA, inBlockA, go_sem, *]))
  refine ⟨[], [some 0], [], trivial, ?_⟩
  simp only [go_sem, packR, AObj.ren, *]
end Go.Abs

namespace Go.Abs
open Go
section
variable {α : Type} (cf : α → α → Int)
structure Ordr : Prop where
  asym : ∀ x y, cf x y < 0 → ¬ cf y x < 0
  trans : ∀ x y z, ¬ cf y x < 0 → ¬ cf z y < 0 → ¬ cf z x < 0
theorem insR_sorted (o : Ordr cf) (x : α) : ∀ l : List α, l.Pairwise (fun a b => ¬ cf a b < 0) → (insR cf x l).Pairwise (fun a b => ¬ cf a b < 0)
  | [], _ => by simp [insR]
  | y :: r, h => by
    obtain ⟨h1, h2⟩ := List.pairwise_cons.1 h
    unfold insR
    split
    · rename_i hc
      refine List.pairwise_cons.2 ⟨fun z hz => ?_, insR_sorted o x r h2⟩
      rcases List.mem_cons.1 ((insR_perm cf x r).mem_iff.1 hz) with rfl | hz
      · exact o.asym _ _ hc
      · exact h1 z hz
    · rename_i hc
      refine List.pairwise_cons.2 ⟨fun z hz => ?_, h⟩
      rcases List.mem_cons.1 hz with rfl | hz
      · exact hc
      · exact o.trans _ _ _ (h1 z hz) hc
theorem insI_sorted (o : Ordr cf) {pre : List α} (x : α) (h : pre.Pairwise (fun a b => ¬ cf b a < 0)) : (insI cf pre x).Pairwise (fun a b => ¬ cf b a < 0) := by
  unfold insI
  rw [List.pairwise_reverse]
  exact insR_sorted cf o x _ (List.pairwise_reverse.2 h)
theorem isort_sorted (o : Ordr cf) (xs : List α) : (isort cf xs).Pairwise (fun a b => ¬ cf b a < 0) := by
  have key : ∀ (xs pre : List α), pre.Pairwise (fun a b => ¬ cf b a < 0) → (xs.foldl (insI cf) pre).Pairwise (fun a b => ¬ cf b a < 0) := by
    intro xs
    induction xs with
    | nil => intro pre h; exact h
    | cons x r ih => intro pre h; exact ih _ (insI_sorted cf o x h)
  exact key xs [] List.Pairwise.nil
end
theorem ordr_cmpP : Ordr cmpP := ⟨fun x y h => by rw [cmpP_lt, Plate.lt_iff] at *; omega, fun x y z h1 h2 => by rw [cmpP_lt, Plate.lt_iff] at *; omega⟩
theorem ordr_cmpH : Ordr cmpH := ⟨fun x y h => by rw [cmpH_lt, House.lt_iff] at *; omega, fun x y z h1 h2 => by rw [cmpH_lt, House.lt_iff] at *; omega⟩
theorem isort_strict_plates {xs : List Plate} (hn : xs.Nodup) : (isort cmpP xs).Pairwise (fun a b => a.lt b = true) := by
  have h1 := isort_sorted cmpP ordr_cmpP xs
  have h2 : (isort cmpP xs).Nodup := (isort_perm cmpP xs).nodup_iff.2 hn
  refine (h1.and h2).imp (fun {a b} h => ?_)
  rcases Plate.lt_tri a b with h3 | h3 | h3
  · exact h3
  · exact absurd h3 h.2
  · exact absurd ((cmpP_lt b a).2 h3) h.1
def rowS (i s : Nat) (b : List Plate) : List Plate := if s < i then isort cmpP b else b
attribute [go_sem] rowS isort_length
@[go_sem] theorem take_isort (f : Plate → AV) (b : List Plate) : ((isort cmpP b).map f).take b.length = (isort cmpP b).map f := List.take_of_length_le (by simp [isort_length])
def Bk (b : List Plate) (s : Nat) (rest tot : List House) : Prop := (b ++ (rest.filter (fun h => h.street == (s : Int))).map House.plate).Perm ((tot.filter (fun h => h.street == (s : Int))).map House.plate)
theorem Bk.start (s : Nat) (tot : List House) : Bk [] s tot tot := by simp [Bk]
theorem Bk.step_in {b : List Plate} {s : Nat} {h : House} {rest tot : List House} (hb : Bk b s (h :: rest) tot) (e : h.street = s) : Bk (b ++ [h.plate]) s rest tot := by
  unfold Bk at *
  rw [List.filter_cons, if_pos (by simp [e])] at hb
  simpa using hb
theorem Bk.step_out {b : List Plate} {s : Nat} {h : House} {rest tot : List House} (hb : Bk b s (h :: rest) tot) (e : h.street ≠ s) : Bk b s rest tot := by
  unfold Bk at *
  rw [List.filter_cons, if_neg (by simpa using e)] at hb
  exact hb
theorem Bk.perm {b : List Plate} {s : Nat} {rest rest' tot : List House} (hb : Bk b s rest tot) (hp : rest.Perm rest') : Bk b s rest' tot :=
  (List.Perm.append_left b ((hp.symm.filter _).map _)).trans hb
theorem erase_perm {α : Type} : ∀ (l : List α) (i : Nat) (h : i < l.length), l.Perm (l[i] :: l.eraseIdx i)
  | x :: r, 0, _ => by simp
  | x :: r, i + 1, h => by
    simp only [List.getElem_cons_succ, List.eraseIdx_cons_succ]
    exact ((erase_perm r i (by simpa using h)).cons x).trans (.swap _ _ _)
theorem Bk.pick {b : List Plate} {s : Nat} {rem : List House} {g : House → List House} {tot : List House} (hb : Bk b s (rem.flatMap g) tot) (i : Nat) (h : i < rem.length) : Bk b s (g rem[i] ++ (rem.eraseIdx i).flatMap g) tot := by
  refine hb.perm ?_
  have := (erase_perm rem i h).flatMap_right g
  simpa using this
theorem Bk.len {b : List Plate} {s : Nat} {rest tot : List House} (hb : Bk b s rest tot) : b.length ≤ (tot.filter (fun h => h.street == (s : Int))).length := by
  have := hb.length_eq
  simp at this; omega
theorem Bk.fin {b : List Plate} {s n : Nat} {tot : List House} (hb : Bk b s [] tot) (hn : tot.Nodup) (hs : s < n) : isort cmpP b = rowAt (laid tot n) s := by
  have hp : b.Perm ((tot.filter (fun h => h.street == (s : Int))).map House.plate) := by simpa [Bk] using hb
  have hnd : ((tot.filter (fun h => h.street == (s : Int))).map House.plate).Nodup := by
    rw [List.nodup_iff_pairwise_ne, List.pairwise_map]
    refine (hn.filter _).imp_of_mem (fun {a b} ha hb' hab e => hab ?_)
    have h1 := (List.mem_filter.1 ha).2
    have h2 := (List.mem_filter.1 hb').2
    simp at h1 h2
    cases a; cases b; simp_all
  refine plates_uniq (isort_strict_plates (hp.nodup_iff.2 hnd)) (sorted_laid_row (by omega) (by omega)) (fun z => ?_)
  rw [(isort_perm cmpP b).mem_iff, hp.mem_iff, mem_laid_row (by omega) (by omega)]
  simp only [List.mem_map, List.mem_filter, beq_iff_eq]
  constructor
  · rintro ⟨h, ⟨h1, h2⟩, rfl⟩
    rw [← h2]; exact h1
  · intro h; exact ⟨_, ⟨h, rfl⟩, rfl⟩
end Go.Abs

namespace Go.Abs
open Go Go.Proofs
set_option maxRecDepth 10000
def AfP1 (g : House → List House) (hs rem : List House) (i : Nat) (b0 : List Plate) : Prop := rem.length + i = hs.length ∧ (∀ h, h ∈ rem → h ∈ hs) ∧ Bk b0 0 (rem.flatMap g) (hs.flatMap g)
def AfQ1 (rest tot : List House) (b0 : List Plate) : Prop := Bk b0 0 rest tot ∧ True
theorem sp_after1 (hs : List House) (g : House → List House) (hst : ∀ z, z ∈ hs.flatMap g → 0 ≤ z.street ∧ z.street < 1) (hnd : (hs.flatMap g).Nodup) (hlen : ∀ s : Nat, s < 1 → ((hs.flatMap g).filter (fun h => h.street == (s : Int))).length ≤ 12) (hsl : hs.length ≤ 1000) (hgl : ∀ h, h ∈ hs → (g h).length ≤ 1000) :
    Spec Tryz.prog 89 [.fmap (hs.map House.key) (hs.map (MapV g)), iV 1] [] (encPlan (laid (hs.flatMap g) 1)) [] := by
  have rz : List.replicate 1 (AV.raw (Value.slice none 0 0)) = [AV.raw (Value.slice none 0 0)] := rfl
  have hmt : (mapT Tryz.prog 121).isSome = true := by kernel_rfl
  have hv1 : IntKind.i64.wrap 1 = (1 : Int) := wrap_i64 (by omega) (by omega)
  have hv2 : IntKind.i64.wrap 2 = (2 : Int) := wrap_i64 (by omega) (by omega)
  have hv3 : IntKind.i64.wrap 3 = (3 : Int) := wrap_i64 (by omega) (by omega)
  refine spec_body Tryz.func89 rfl (fun E hE => ?_); simp only [go_sem, Tryz.ntmps89]
  repeat' (first | (with_reducible (show runOps ..); first | (refine Qr rfl ?_; try intro K' hK; try simp only [go_sem, *])) | (with_reducible (show Hold ..); first | refine Qh rfl ?_ | refine s_draw rfl Tryz.mixed (by kernel_rfl) ?_ | (refine s_cond rfl ⟨_, rfl, fun hb => ?_, fun hb => ?_⟩ <;> (have hc := hb; try simp only [go_sem] at hc)) | refine s_ret rfl ?_) | ((with_reducible refine Qb ?_ ?_); focus kernel_rfl) | ((with_reducible refine And.intro ?_ ?_); focus omega) | (refine contA_of hK ?_; clear hK K'; simp only [go_sem, *]) | (simp only [thenA, inBlockA, go_sem, *]))
  refine s_loop rfl (fun zn zN zenv zAs => ∃ (i : Nat) (cur : Option (Value × AV)) (rem : List House) (b0 : List Plate), zn = (hs.length) - i ∧ i ≤ (hs.length) ∧ (AfP1 g hs rem i b0) ∧ zN = 54 ∧ zenv = [(4, .ptr 0 0), (5, .ptr 1 0), (16, .ptr 4 0)] ∧ zAs = [.box [nilV], .box [.own 2 1 0 1], .box [.own 3 2 0 b0.length], .row 2 (b0.map Plate.enc), .iter cur (rem.map House.key) (rem.map (MapV g))]) (hs.length) ⟨[some 0, some 2, some 1, none, some 3], [], _, _, _, (by (simp only [Weak, go_sem, List.map_append, List.map_set, *] <;> (try simp (disch := omega) only [wrap_succ]) <;> (try simp) <;> (try omega))), 0, none, hs, [], (by simp), (by simp), (by exact ⟨by omega, fun h hh => hh, Bk.start _ _⟩), rfl, rfl, rfl⟩ ?_; rintro _ _ _ _ ⟨i, cur, rem, b0, rfl, hi, hP, rfl, rfl, rfl⟩
  refine s_seq rfl ?_
  refine s_next (o := 4) rfl rfl rfl rfl rfl rfl rfl cur (rem.map House.key) (rem.map (MapV g)) (by simp only [go_sem]) (by simp only [go_sem]) (show (17 : Nat) < 54 by decide) (show (18 : Nat) < 54 by decide) (fun hk _ => ?_) (fun r hr1 hr2 => ?_)
  · simp only [go_sem]
    repeat' (first | (with_reducible (show runOps ..); first | (refine Qr rfl ?_; try intro K' hK; try simp only [go_sem, *])) | (with_reducible (show Hold ..); first | refine Qh rfl ?_ | refine s_draw rfl Tryz.mixed (by kernel_rfl) ?_ | (refine s_cond rfl ⟨_, rfl, fun hb => ?_, fun hb => ?_⟩ <;> (have hc := hb; try simp only [go_sem] at hc)) | refine s_ret rfl ?_) | ((with_reducible refine Qb ?_ ?_); focus kernel_rfl) | ((with_reducible refine And.intro ?_ ?_); focus omega) | (refine contA_of hK ?_; clear hK K'; simp only [go_sem, *]) | (simp only [thenA, inBlockA, go_sem, *]))
    obtain rfl : rem = [] := by simpa using hk
    obtain ⟨hlen0, hsub, p0⟩ := hP
    rw [List.flatMap_nil] at p0
    have hl0 := Nat.le_trans p0.len (hlen 0 (by omega))
    refine s_loop rfl (fun zn zN zenv zAs => ∃ (k : Nat), zn = (1) - k ∧ k ≤ (1) ∧ (NoP k) ∧ zN = 54 ∧ zenv = [(46, iV k), (45, iV 1), (44, .own 2 1 0 1), (4, .ptr 0 0), (5, .ptr 1 0)] ∧ zAs = [.box [nilV], .box [.own 2 1 0 1], .box [.own 3 2 0 b0.length], .row 2 ((rowS k 0 b0).map Plate.enc)]) (1) ⟨[some 0, some 1, some 2, some 3], [], _, _, _, (by (simp only [Weak, go_sem, List.map_append, List.map_set, *] <;> (try simp (disch := omega) only [wrap_succ]) <;> (try simp) <;> (try omega))), 0, (by simp), (by simp), (by trivial), rfl, rfl, rfl⟩ ?_; rintro _ _ _ _ ⟨k, rfl, hk, hK, rfl, rfl, rfl⟩
    rcases (by omega : k = 0 ∨ k = 1) with rfl | rfl
    · repeat' (first | (with_reducible (show runOps ..); first | (refine Qr rfl ?_; try intro K' hK; try simp only [go_sem, *])) | (with_reducible (show Hold ..); first | refine Qh rfl ?_ | refine s_draw rfl Tryz.mixed (by kernel_rfl) ?_ | (refine s_cond rfl ⟨_, rfl, fun hb => ?_, fun hb => ?_⟩ <;> (have hc := hb; try simp only [go_sem] at hc)) | refine s_ret rfl ?_) | ((with_reducible refine Qb ?_ ?_); focus kernel_rfl) | ((with_reducible refine And.intro ?_ ?_); focus omega) | (refine contA_of hK ?_; clear hK K'; simp only [go_sem, *]) | (simp only [thenA, inBlockA, go_sem, *]))
      refine call_of [3] [] (sp_SortFunc_Plate (by kernel_rfl) sp_comparePlates b0 (by omega)) (by simp) (by simp only [go_sem, *]) (by simp only [go_sem, AObj.live, *]) (by simp) (.inl rfl) (by simp [go_sem]) (by simp) ?_
      simp only [go_sem, AObj.ren, *]
      repeat' (first | (with_reducible (show runOps ..); first | (refine Qr rfl ?_; try intro K' hK; try simp only [go_sem, *])) | (with_reducible (show Hold ..); first | refine Qh rfl ?_ | refine s_draw rfl Tryz.mixed (by kernel_rfl) ?_ | (refine s_cond rfl ⟨_, rfl, fun hb => ?_, fun hb => ?_⟩ <;> (have hc := hb; try simp only [go_sem] at hc)) | refine s_ret rfl ?_) | ((with_reducible refine Qb ?_ ?_); focus kernel_rfl) | ((with_reducible refine And.intro ?_ ?_); focus omega) | (refine contA_of hK ?_; clear hK K'; simp only [go_sem, *]) | (simp only [thenA, inBlockA, go_sem, *]))
      refine ⟨_, (by omega), [some 0, some 1, some 2, some 3], [], _, _, _, (by (simp only [Weak, go_sem, List.map_append, List.map_set, *] <;> (try simp (disch := omega) only [wrap_succ]) <;> (try simp) <;> (try omega))), 0 + 1, rfl, (by omega), (by trivial), rfl, rfl, rfl⟩
    · repeat' (first | (with_reducible (show runOps ..); first | (refine Qr rfl ?_; try intro K' hK; try simp only [go_sem, *])) | (with_reducible (show Hold ..); first | refine Qh rfl ?_ | refine s_draw rfl Tryz.mixed (by kernel_rfl) ?_ | (refine s_cond rfl ⟨_, rfl, fun hb => ?_, fun hb => ?_⟩ <;> (have hc := hb; try simp only [go_sem] at hc)) | refine s_ret rfl ?_) | ((with_reducible refine Qb ?_ ?_); focus kernel_rfl) | ((with_reducible refine And.intro ?_ ?_); focus omega) | (refine contA_of hK ?_; clear hK K'; simp only [go_sem, *]) | (simp only [thenA, inBlockA, go_sem, *]))
      have e : laid (hs.flatMap g) 1 = [isort cmpP b0] := by
        rw [p0.fin hnd (n := 1) (by omega)]; simp [laid, rowAt, List.range_succ]
      refine ⟨[.agg [.own 2 1 0 1]], [], [2, 3], ⟨by simp only [resOne, go_sem], trivial⟩, ?_⟩
      simp only [go_sem, e, *]
      exact .inr (by simp)
  · obtain ⟨hr, hrk, hrx⟩ : ∃ hr : r < rem.length, (rem.map House.key)[r] = (rem[r]).key ∧ (rem.map (MapV g))[r] = .list ((g rem[r]).map House.enc) := ⟨by simpa using hr1, by simp, by simp [MapV]⟩
    rw [hrk, hrx, ← map_eraseIdx', ← map_eraseIdx']
    generalize (rem[r]).key = kk at *
    clear hrk
    simp only [go_sem]
    repeat' (first | (with_reducible (show runOps ..); first | (refine Qr rfl ?_; try intro K' hK; try simp only [go_sem, *])) | (with_reducible (show Hold ..); first | refine Qh rfl ?_ | refine s_draw rfl Tryz.mixed (by kernel_rfl) ?_ | (refine s_cond rfl ⟨_, rfl, fun hb => ?_, fun hb => ?_⟩ <;> (have hc := hb; try simp only [go_sem] at hc)) | refine s_ret rfl ?_) | ((with_reducible refine Qb ?_ ?_); focus kernel_rfl) | ((with_reducible refine And.intro ?_ ?_); focus omega) | (refine contA_of hK ?_; clear hK K'; simp only [go_sem, *]) | (simp only [thenA, inBlockA, go_sem, *]))
    obtain ⟨hlen0, hsub, p0⟩ := hP
    have p0 := p0.pick r hr
    have hll : (g rem[r]).length ≤ 1000 := hgl _ (hsub _ (List.getElem_mem hr))
    have hsl2 : ∀ z, z ∈ g rem[r] → 0 ≤ z.street ∧ z.street < 1 := fun z hz => hst z (List.mem_flatMap.2 ⟨_, hsub _ (List.getElem_mem hr), hz⟩)
    clear hrx
    generalize g rem[r] = l at *
    refine s_loop rfl (fun zn zN zenv zAs => ∃ (j : Nat) (b0 : List Plate), zn = (l.length) - j ∧ j ≤ (l.length) ∧ (AfQ1 (l.drop j ++ (rem.eraseIdx r).flatMap g) (hs.flatMap g) b0) ∧ zN = 54 ∧ zenv = [(23, iV j), (22, iV l.length), (21, encHouses l), (4, .ptr 0 0), (5, .ptr 1 0), (16, .ptr 4 0)] ∧ zAs = [.box [nilV], .box [.own 2 1 0 1], .box [.own 3 2 0 b0.length], .row 2 (b0.map Plate.enc), .iter (some (kk, .list (l.map House.enc))) ((rem.eraseIdx r).map House.key) ((rem.eraseIdx r).map (MapV g))]) (l.length) ⟨[some 0, some 1, some 2, some 3, some 4], [], _, _, _, (by (simp only [Weak, go_sem, List.map_append, List.map_set, *] <;> (try simp (disch := omega) only [wrap_succ]) <;> (try simp) <;> (try omega))), 0, b0, (by simp), (by simp), (by exact ⟨p0, trivial⟩), rfl, rfl, rfl⟩ ?_; rintro _ _ _ _ ⟨j, b0, rfl, hj, hQ, rfl, rfl, rfl⟩
    by_cases hj : j < l.length
    · have hz := hsl2 _ (getD_mem hj)
      have hdj := drop_cons hj
      rw [hdj, List.cons_append] at hQ
      obtain ⟨q0, _⟩ := hQ
      have hl0 := Nat.le_trans q0.len (hlen 0 (by omega))
      clear hdj
      rcases (by omega : (l.getD j default).street = 0) with hs0
      · repeat' (first | (with_reducible (show runOps ..); first | (refine Qr rfl ?_; try intro K' hK; try simp only [go_sem, *])) | (with_reducible (show Hold ..); first | refine Qh rfl ?_ | refine s_draw rfl Tryz.mixed (by kernel_rfl) ?_ | (refine s_cond rfl ⟨_, rfl, fun hb => ?_, fun hb => ?_⟩ <;> (have hc := hb; try simp only [go_sem] at hc)) | refine s_ret rfl ?_) | ((with_reducible refine Qb ?_ ?_); focus kernel_rfl) | ((with_reducible refine And.intro ?_ ?_); focus omega) | (refine contA_of hK ?_; clear hK K'; simp only [go_sem, *]) | (simp only [thenA, inBlockA, go_sem, *]))
        refine ⟨_, (by omega), [some 0, some 1, some 2, some 7, some 4], [], _, _, _, (by (simp only [Weak, go_sem, List.map_append, List.map_set, *] <;> (try simp (disch := omega) only [wrap_succ]) <;> (try simp) <;> (try omega))), j + 1, b0 ++ [(l.getD j default).plate], rfl, (by omega), (by exact ⟨q0.step_in (by rw [hs0]; rfl), trivial⟩), rfl, rfl, rfl⟩
    · repeat' (first | (with_reducible (show runOps ..); first | (refine Qr rfl ?_; try intro K' hK; try simp only [go_sem, *])) | (with_reducible (show Hold ..); first | refine Qh rfl ?_ | refine s_draw rfl Tryz.mixed (by kernel_rfl) ?_ | (refine s_cond rfl ⟨_, rfl, fun hb => ?_, fun hb => ?_⟩ <;> (have hc := hb; try simp only [go_sem] at hc)) | refine s_ret rfl ?_) | ((with_reducible refine Qb ?_ ?_); focus kernel_rfl) | ((with_reducible refine And.intro ?_ ?_); focus omega) | (refine contA_of hK ?_; clear hK K'; simp only [go_sem, *]) | (simp only [thenA, inBlockA, go_sem, *]))
      rw [drop_end (by omega), List.nil_append] at hQ
      refine ⟨_, (by omega), [some 0, some 1, some 2, some 3, some 4], [], _, _, _, (by (simp only [Weak, go_sem, List.map_append, List.map_set, *] <;> (try simp (disch := omega) only [wrap_succ]) <;> (try simp) <;> (try omega))), i + 1, (some (kk, .list (l.map House.enc))), rem.eraseIdx r, b0, rfl, (by omega), (by exact ⟨by rw [List.length_eraseIdx_of_lt hr]; omega, fun h hh => hsub h ((List.eraseIdx_sublist _ _).subset hh), hQ.1⟩), rfl, rfl, rfl⟩
end Go.Abs

namespace Go.Abs
open Go Go.Proofs
set_option maxRecDepth 10000
def AfP2 (g : House → List House) (hs rem : List House) (i : Nat) (b0 b1 : List Plate) : Prop := rem.length + i = hs.length ∧ (∀ h, h ∈ rem → h ∈ hs) ∧ Bk b0 0 (rem.flatMap g) (hs.flatMap g) ∧ Bk b1 1 (rem.flatMap g) (hs.flatMap g)
def AfQ2 (rest tot : List House) (b0 b1 : List Plate) : Prop := Bk b0 0 rest tot ∧ Bk b1 1 rest tot
theorem sp_after2 (hs : List House) (g : House → List House) (hst : ∀ z, z ∈ hs.flatMap g → 0 ≤ z.street ∧ z.street < 2) (hnd : (hs.flatMap g).Nodup) (hlen : ∀ s : Nat, s < 2 → ((hs.flatMap g).filter (fun h => h.street == (s : Int))).length ≤ 12) (hsl : hs.length ≤ 1000) (hgl : ∀ h, h ∈ hs → (g h).length ≤ 1000) :
    Spec Tryz.prog 89 [.fmap (hs.map House.key) (hs.map (MapV g)), iV 2] [] (encPlan (laid (hs.flatMap g) 2)) [] := by
  have rz : List.replicate 2 (AV.raw (Value.slice none 0 0)) = [AV.raw (Value.slice none 0 0), AV.raw (Value.slice none 0 0)] := rfl
  have hmt : (mapT Tryz.prog 121).isSome = true := by kernel_rfl
  have hv1 : IntKind.i64.wrap 1 = (1 : Int) := wrap_i64 (by omega) (by omega)
  have hv2 : IntKind.i64.wrap 2 = (2 : Int) := wrap_i64 (by omega) (by omega)
  have hv3 : IntKind.i64.wrap 3 = (3 : Int) := wrap_i64 (by omega) (by omega)
  refine spec_body Tryz.func89 rfl (fun E hE => ?_); simp only [go_sem, Tryz.ntmps89]
  repeat' (first | (with_reducible (show runOps ..); first | (refine Qr rfl ?_; try intro K' hK; try simp only [go_sem, *])) | (with_reducible (show Hold ..); first | refine Qh rfl ?_ | refine s_draw rfl Tryz.mixed (by kernel_rfl) ?_ | (refine s_cond rfl ⟨_, rfl, fun hb => ?_, fun hb => ?_⟩ <;> (have hc := hb; try simp only [go_sem] at hc)) | refine s_ret rfl ?_) | ((with_reducible refine Qb ?_ ?_); focus kernel_rfl) | ((with_reducible refine And.intro ?_ ?_); focus omega) | (refine contA_of hK ?_; clear hK K'; simp only [go_sem, *]) | (simp only [thenA, inBlockA, go_sem, *]))
  refine s_loop rfl (fun zn zN zenv zAs => ∃ (i : Nat) (cur : Option (Value × AV)) (rem : List House) (b0 : List Plate) (b1 : List Plate), zn = (hs.length) - i ∧ i ≤ (hs.length) ∧ (AfP2 g hs rem i b0 b1) ∧ zN = 54 ∧ zenv = [(4, .ptr 0 0), (5, .ptr 1 0), (16, .ptr 5 0)] ∧ zAs = [.box [nilV], .box [.own 2 1 0 2], .box [.own 3 2 0 b0.length, .own 4 2 0 b1.length], .row 2 (b0.map Plate.enc), .row 2 (b1.map Plate.enc), .iter cur (rem.map House.key) (rem.map (MapV g))]) (hs.length) ⟨[some 0, some 2, some 1, none, none, some 3], [], _, _, _, (by (simp only [Weak, go_sem, List.map_append, List.map_set, *] <;> (try simp (disch := omega) only [wrap_succ]) <;> (try simp) <;> (try omega))), 0, none, hs, [], [], (by simp), (by simp), (by exact ⟨by omega, fun h hh => hh, Bk.start _ _, Bk.start _ _⟩), rfl, rfl, rfl⟩ ?_; rintro _ _ _ _ ⟨i, cur, rem, b0, b1, rfl, hi, hP, rfl, rfl, rfl⟩
  refine s_seq rfl ?_
  refine s_next (o := 5) rfl rfl rfl rfl rfl rfl rfl cur (rem.map House.key) (rem.map (MapV g)) (by simp only [go_sem]) (by simp only [go_sem]) (show (17 : Nat) < 54 by decide) (show (18 : Nat) < 54 by decide) (fun hk _ => ?_) (fun r hr1 hr2 => ?_)
  · simp only [go_sem]
    repeat' (first | (with_reducible (show runOps ..); first | (refine Qr rfl ?_; try intro K' hK; try simp only [go_sem, *])) | (with_reducible (show Hold ..); first | refine Qh rfl ?_ | refine s_draw rfl Tryz.mixed (by kernel_rfl) ?_ | (refine s_cond rfl ⟨_, rfl, fun hb => ?_, fun hb => ?_⟩ <;> (have hc := hb; try simp only [go_sem] at hc)) | refine s_ret rfl ?_) | ((with_reducible refine Qb ?_ ?_); focus kernel_rfl) | ((with_reducible refine And.intro ?_ ?_); focus omega) | (refine contA_of hK ?_; clear hK K'; simp only [go_sem, *]) | (simp only [thenA, inBlockA, go_sem, *]))
    obtain rfl : rem = [] := by simpa using hk
    obtain ⟨hlen0, hsub, p0, p1⟩ := hP
    rw [List.flatMap_nil] at p0 p1
    have hl0 := Nat.le_trans p0.len (hlen 0 (by omega))
    have hl1 := Nat.le_trans p1.len (hlen 1 (by omega))
    refine s_loop rfl (fun zn zN zenv zAs => ∃ (k : Nat), zn = (2) - k ∧ k ≤ (2) ∧ (NoP k) ∧ zN = 54 ∧ zenv = [(46, iV k), (45, iV 2), (44, .own 2 1 0 2), (4, .ptr 0 0), (5, .ptr 1 0)] ∧ zAs = [.box [nilV], .box [.own 2 1 0 2], .box [.own 3 2 0 b0.length, .own 4 2 0 b1.length], .row 2 ((rowS k 0 b0).map Plate.enc), .row 2 ((rowS k 1 b1).map Plate.enc)]) (2) ⟨[some 0, some 1, some 2, some 3, some 4], [], _, _, _, (by (simp only [Weak, go_sem, List.map_append, List.map_set, *] <;> (try simp (disch := omega) only [wrap_succ]) <;> (try simp) <;> (try omega))), 0, (by simp), (by simp), (by trivial), rfl, rfl, rfl⟩ ?_; rintro _ _ _ _ ⟨k, rfl, hk, hK, rfl, rfl, rfl⟩
    rcases (by omega : k = 0 ∨ k = 1 ∨ k = 2) with rfl | rfl | rfl
    · repeat' (first | (with_reducible (show runOps ..); first | (refine Qr rfl ?_; try intro K' hK; try simp only [go_sem, *])) | (with_reducible (show Hold ..); first | refine Qh rfl ?_ | refine s_draw rfl Tryz.mixed (by kernel_rfl) ?_ | (refine s_cond rfl ⟨_, rfl, fun hb => ?_, fun hb => ?_⟩ <;> (have hc := hb; try simp only [go_sem] at hc)) | refine s_ret rfl ?_) | ((with_reducible refine Qb ?_ ?_); focus kernel_rfl) | ((with_reducible refine And.intro ?_ ?_); focus omega) | (refine contA_of hK ?_; clear hK K'; simp only [go_sem, *]) | (simp only [thenA, inBlockA, go_sem, *]))
      refine call_of [3] [] (sp_SortFunc_Plate (by kernel_rfl) sp_comparePlates b0 (by omega)) (by simp) (by simp only [go_sem, *]) (by simp only [go_sem, AObj.live, *]) (by simp) (.inl rfl) (by simp [go_sem]) (by simp) ?_
      simp only [go_sem, AObj.ren, *]
      repeat' (first | (with_reducible (show runOps ..); first | (refine Qr rfl ?_; try intro K' hK; try simp only [go_sem, *])) | (with_reducible (show Hold ..); first | refine Qh rfl ?_ | refine s_draw rfl Tryz.mixed (by kernel_rfl) ?_ | (refine s_cond rfl ⟨_, rfl, fun hb => ?_, fun hb => ?_⟩ <;> (have hc := hb; try simp only [go_sem] at hc)) | refine s_ret rfl ?_) | ((with_reducible refine Qb ?_ ?_); focus kernel_rfl) | ((with_reducible refine And.intro ?_ ?_); focus omega) | (refine contA_of hK ?_; clear hK K'; simp only [go_sem, *]) | (simp only [thenA, inBlockA, go_sem, *]))
      refine ⟨_, (by omega), [some 0, some 1, some 2, some 3, some 4], [], _, _, _, (by (simp only [Weak, go_sem, List.map_append, List.map_set, *] <;> (try simp (disch := omega) only [wrap_succ]) <;> (try simp) <;> (try omega))), 0 + 1, rfl, (by omega), (by trivial), rfl, rfl, rfl⟩
    · repeat' (first | (with_reducible (show runOps ..); first | (refine Qr rfl ?_; try intro K' hK; try simp only [go_sem, *])) | (with_reducible (show Hold ..); first | refine Qh rfl ?_ | refine s_draw rfl Tryz.mixed (by kernel_rfl) ?_ | (refine s_cond rfl ⟨_, rfl, fun hb => ?_, fun hb => ?_⟩ <;> (have hc := hb; try simp only [go_sem] at hc)) | refine s_ret rfl ?_) | ((with_reducible refine Qb ?_ ?_); focus kernel_rfl) | ((with_reducible refine And.intro ?_ ?_); focus omega) | (refine contA_of hK ?_; clear hK K'; simp only [go_sem, *]) | (simp only [thenA, inBlockA, go_sem, *]))
      refine call_of [4] [] (sp_SortFunc_Plate (by kernel_rfl) sp_comparePlates b1 (by omega)) (by simp) (by simp only [go_sem, *]) (by simp only [go_sem, AObj.live, *]) (by simp) (.inl rfl) (by simp [go_sem]) (by simp) ?_
      simp only [go_sem, AObj.ren, *]
      repeat' (first | (with_reducible (show runOps ..); first | (refine Qr rfl ?_; try intro K' hK; try simp only [go_sem, *])) | (with_reducible (show Hold ..); first | refine Qh rfl ?_ | refine s_draw rfl Tryz.mixed (by kernel_rfl) ?_ | (refine s_cond rfl ⟨_, rfl, fun hb => ?_, fun hb => ?_⟩ <;> (have hc := hb; try simp only [go_sem] at hc)) | refine s_ret rfl ?_) | ((with_reducible refine Qb ?_ ?_); focus kernel_rfl) | ((with_reducible refine And.intro ?_ ?_); focus omega) | (refine contA_of hK ?_; clear hK K'; simp only [go_sem, *]) | (simp only [thenA, inBlockA, go_sem, *]))
      refine ⟨_, (by omega), [some 0, some 1, some 2, some 3, some 4], [], _, _, _, (by (simp only [Weak, go_sem, List.map_append, List.map_set, *] <;> (try simp (disch := omega) only [wrap_succ]) <;> (try simp) <;> (try omega))), 1 + 1, rfl, (by omega), (by trivial), rfl, rfl, rfl⟩
    · repeat' (first | (with_reducible (show runOps ..); first | (refine Qr rfl ?_; try intro K' hK; try simp only [go_sem, *])) | (with_reducible (show Hold ..); first | refine Qh rfl ?_ | refine s_draw rfl Tryz.mixed (by kernel_rfl) ?_ | (refine s_cond rfl ⟨_, rfl, fun hb => ?_, fun hb => ?_⟩ <;> (have hc := hb; try simp only [go_sem] at hc)) | refine s_ret rfl ?_) | ((with_reducible refine Qb ?_ ?_); focus kernel_rfl) | ((with_reducible refine And.intro ?_ ?_); focus omega) | (refine contA_of hK ?_; clear hK K'; simp only [go_sem, *]) | (simp only [thenA, inBlockA, go_sem, *]))
      have e : laid (hs.flatMap g) 2 = [isort cmpP b0, isort cmpP b1] := by
        rw [p0.fin hnd (n := 2) (by omega), p1.fin hnd (n := 2) (by omega)]; simp [laid, rowAt, List.range_succ]
      refine ⟨[.agg [.own 2 1 0 2]], [], [2, 3, 4], ⟨by simp only [resOne, go_sem], trivial⟩, ?_⟩
      simp only [go_sem, e, *]
      exact .inr (by simp)
  · obtain ⟨hr, hrk, hrx⟩ : ∃ hr : r < rem.length, (rem.map House.key)[r] = (rem[r]).key ∧ (rem.map (MapV g))[r] = .list ((g rem[r]).map House.enc) := ⟨by simpa using hr1, by simp, by simp [MapV]⟩
    rw [hrk, hrx, ← map_eraseIdx', ← map_eraseIdx']
    generalize (rem[r]).key = kk at *
    clear hrk
    simp only [go_sem]
    repeat' (first | (with_reducible (show runOps ..); first | (refine Qr rfl ?_; try intro K' hK; try simp only [go_sem, *])) | (with_reducible (show Hold ..); first | refine Qh rfl ?_ | refine s_draw rfl Tryz.mixed (by kernel_rfl) ?_ | (refine s_cond rfl ⟨_, rfl, fun hb => ?_, fun hb => ?_⟩ <;> (have hc := hb; try simp only [go_sem] at hc)) | refine s_ret rfl ?_) | ((with_reducible refine Qb ?_ ?_); focus kernel_rfl) | ((with_reducible refine And.intro ?_ ?_); focus omega) | (refine contA_of hK ?_; clear hK K'; simp only [go_sem, *]) | (simp only [thenA, inBlockA, go_sem, *]))
    obtain ⟨hlen0, hsub, p0, p1⟩ := hP
    have p0 := p0.pick r hr
    have p1 := p1.pick r hr
    have hll : (g rem[r]).length ≤ 1000 := hgl _ (hsub _ (List.getElem_mem hr))
    have hsl2 : ∀ z, z ∈ g rem[r] → 0 ≤ z.street ∧ z.street < 2 := fun z hz => hst z (List.mem_flatMap.2 ⟨_, hsub _ (List.getElem_mem hr), hz⟩)
    clear hrx
    generalize g rem[r] = l at *
    refine s_loop rfl (fun zn zN zenv zAs => ∃ (j : Nat) (b0 : List Plate) (b1 : List Plate), zn = (l.length) - j ∧ j ≤ (l.length) ∧ (AfQ2 (l.drop j ++ (rem.eraseIdx r).flatMap g) (hs.flatMap g) b0 b1) ∧ zN = 54 ∧ zenv = [(23, iV j), (22, iV l.length), (21, encHouses l), (4, .ptr 0 0), (5, .ptr 1 0), (16, .ptr 5 0)] ∧ zAs = [.box [nilV], .box [.own 2 1 0 2], .box [.own 3 2 0 b0.length, .own 4 2 0 b1.length], .row 2 (b0.map Plate.enc), .row 2 (b1.map Plate.enc), .iter (some (kk, .list (l.map House.enc))) ((rem.eraseIdx r).map House.key) ((rem.eraseIdx r).map (MapV g))]) (l.length) ⟨[some 0, some 1, some 2, some 3, some 4, some 5], [], _, _, _, (by (simp only [Weak, go_sem, List.map_append, List.map_set, *] <;> (try simp (disch := omega) only [wrap_succ]) <;> (try simp) <;> (try omega))), 0, b0, b1, (by simp), (by simp), (by exact ⟨p0, p1⟩), rfl, rfl, rfl⟩ ?_; rintro _ _ _ _ ⟨j, b0, b1, rfl, hj, hQ, rfl, rfl, rfl⟩
    by_cases hj : j < l.length
    · have hz := hsl2 _ (getD_mem hj)
      have hdj := drop_cons hj
      rw [hdj, List.cons_append] at hQ
      obtain ⟨q0, q1⟩ := hQ
      have hl0 := Nat.le_trans q0.len (hlen 0 (by omega))
      have hl1 := Nat.le_trans q1.len (hlen 1 (by omega))
      clear hdj
      rcases (by omega : (l.getD j default).street = 0 ∨ (l.getD j default).street = 1) with hs0 | hs0
      · repeat' (first | (with_reducible (show runOps ..); first | (refine Qr rfl ?_; try intro K' hK; try simp only [go_sem, *])) | (with_reducible (show Hold ..); first | refine Qh rfl ?_ | refine s_draw rfl Tryz.mixed (by kernel_rfl) ?_ | (refine s_cond rfl ⟨_, rfl, fun hb => ?_, fun hb => ?_⟩ <;> (have hc := hb; try simp only [go_sem] at hc)) | refine s_ret rfl ?_) | ((with_reducible refine Qb ?_ ?_); focus kernel_rfl) | ((with_reducible refine And.intro ?_ ?_); focus omega) | (refine contA_of hK ?_; clear hK K'; simp only [go_sem, *]) | (simp only [thenA, inBlockA, go_sem, *]))
        refine ⟨_, (by omega), [some 0, some 1, some 2, some 8, some 4, some 5], [], _, _, _, (by (simp only [Weak, go_sem, List.map_append, List.map_set, *] <;> (try simp (disch := omega) only [wrap_succ]) <;> (try simp) <;> (try omega))), j + 1, b0 ++ [(l.getD j default).plate], b1, rfl, (by omega), (by exact ⟨q0.step_in (by rw [hs0]; rfl), q1.step_out (by rw [hs0]; decide)⟩), rfl, rfl, rfl⟩
      · repeat' (first | (with_reducible (show runOps ..); first | (refine Qr rfl ?_; try intro K' hK; try simp only [go_sem, *])) | (with_reducible (show Hold ..); first | refine Qh rfl ?_ | refine s_draw rfl Tryz.mixed (by kernel_rfl) ?_ | (refine s_cond rfl ⟨_, rfl, fun hb => ?_, fun hb => ?_⟩ <;> (have hc := hb; try simp only [go_sem] at hc)) | refine s_ret rfl ?_) | ((with_reducible refine Qb ?_ ?_); focus kernel_rfl) | ((with_reducible refine And.intro ?_ ?_); focus omega) | (refine contA_of hK ?_; clear hK K'; simp only [go_sem, *]) | (simp only [thenA, inBlockA, go_sem, *]))
        refine ⟨_, (by omega), [some 0, some 1, some 2, some 3, some 8, some 5], [], _, _, _, (by (simp only [Weak, go_sem, List.map_append, List.map_set, *] <;> (try simp (disch := omega) only [wrap_succ]) <;> (try simp) <;> (try omega))), j + 1, b0, b1 ++ [(l.getD j default).plate], rfl, (by omega), (by exact ⟨q0.step_out (by rw [hs0]; decide), q1.step_in (by rw [hs0]; rfl)⟩), rfl, rfl, rfl⟩
    · repeat' (first | (with_reducible (show runOps ..); first | (refine Qr rfl ?_; try intro K' hK; try simp only [go_sem, *])) | (with_reducible (show Hold ..); first | refine Qh rfl ?_ | refine s_draw rfl Tryz.mixed (by kernel_rfl) ?_ | (refine s_cond rfl ⟨_, rfl, fun hb => ?_, fun hb => ?_⟩ <;> (have hc := hb; try simp only [go_sem] at hc)) | refine s_ret rfl ?_) | ((with_reducible refine Qb ?_ ?_); focus kernel_rfl) | ((with_reducible refine And.intro ?_ ?_); focus omega) | (refine contA_of hK ?_; clear hK K'; simp only [go_sem, *]) | (simp only [thenA, inBlockA, go_sem, *]))
      rw [drop_end (by omega), List.nil_append] at hQ
      refine ⟨_, (by omega), [some 0, some 1, some 2, some 3, some 4, some 5], [], _, _, _, (by (simp only [Weak, go_sem, List.map_append, List.map_set, *] <;> (try simp (disch := omega) only [wrap_succ]) <;> (try simp) <;> (try omega))), i + 1, (some (kk, .list (l.map House.enc))), rem.eraseIdx r, b0, b1, rfl, (by omega), (by exact ⟨by rw [List.length_eraseIdx_of_lt hr]; omega, fun h hh => hsub h ((List.eraseIdx_sublist _ _).subset hh), hQ⟩), rfl, rfl, rfl⟩
end Go.Abs

namespace Go.Abs
open Go Go.Proofs
set_option maxRecDepth 10000
def AfP3 (g : House → List House) (hs rem : List House) (i : Nat) (b0 b1 b2 : List Plate) : Prop := rem.length + i = hs.length ∧ (∀ h, h ∈ rem → h ∈ hs) ∧ Bk b0 0 (rem.flatMap g) (hs.flatMap g) ∧ Bk b1 1 (rem.flatMap g) (hs.flatMap g) ∧ Bk b2 2 (rem.flatMap g) (hs.flatMap g)
def AfQ3 (rest tot : List House) (b0 b1 b2 : List Plate) : Prop := Bk b0 0 rest tot ∧ Bk b1 1 rest tot ∧ Bk b2 2 rest tot
theorem sp_after3 (hs : List House) (g : House → List House) (hst : ∀ z, z ∈ hs.flatMap g → 0 ≤ z.street ∧ z.street < 3) (hnd : (hs.flatMap g).Nodup) (hlen : ∀ s : Nat, s < 3 → ((hs.flatMap g).filter (fun h => h.street == (s : Int))).length ≤ 12) (hsl : hs.length ≤ 1000) (hgl : ∀ h, h ∈ hs → (g h).length ≤ 1000) :
    Spec Tryz.prog 89 [.fmap (hs.map House.key) (hs.map (MapV g)), iV 3] [] (encPlan (laid (hs.flatMap g) 3)) [] := by
  have rz : List.replicate 3 (AV.raw (Value.slice none 0 0)) = [AV.raw (Value.slice none 0 0), AV.raw (Value.slice none 0 0), AV.raw (Value.slice none 0 0)] := rfl
  have hmt : (mapT Tryz.prog 121).isSome = true := by kernel_rfl
  have hv1 : IntKind.i64.wrap 1 = (1 : Int) := wrap_i64 (by omega) (by omega)
  have hv2 : IntKind.i64.wrap 2 = (2 : Int) := wrap_i64 (by omega) (by omega)
  have hv3 : IntKind.i64.wrap 3 = (3 : Int) := wrap_i64 (by omega) (by omega)
  refine spec_body Tryz.func89 rfl (fun E hE => ?_); simp only [go_sem, Tryz.ntmps89]
  repeat' (first | (with_reducible (show runOps ..); first | (refine Qr rfl ?_; try intro K' hK; try simp only [go_sem, *])) | (with_reducible (show Hold ..); first | refine Qh rfl ?_ | refine s_draw rfl Tryz.mixed (by kernel_rfl) ?_ | (refine s_cond rfl ⟨_, rfl, fun hb => ?_, fun hb => ?_⟩ <;> (have hc := hb; try simp only [go_sem] at hc)) | refine s_ret rfl ?_) | ((with_reducible refine Qb ?_ ?_); focus kernel_rfl) | ((with_reducible refine And.intro ?_ ?_); focus omega) | (refine contA_of hK ?_; clear hK K'; simp only [go_sem, *]) | (simp only [thenA, inBlockA, go_sem, *]))
  refine s_loop rfl (fun zn zN zenv zAs => ∃ (i : Nat) (cur : Option (Value × AV)) (rem : List House) (b0 : List Plate) (b1 : List Plate) (b2 : List Plate), zn = (hs.length) - i ∧ i ≤ (hs.length) ∧ (AfP3 g hs rem i b0 b1 b2) ∧ zN = 54 ∧ zenv = [(4, .ptr 0 0), (5, .ptr 1 0), (16, .ptr 6 0)] ∧ zAs = [.box [nilV], .box [.own 2 1 0 3], .box [.own 3 2 0 b0.length, .own 4 2 0 b1.length, .own 5 2 0 b2.length], .row 2 (b0.map Plate.enc), .row 2 (b1.map Plate.enc), .row 2 (b2.map Plate.enc), .iter cur (rem.map House.key) (rem.map (MapV g))]) (hs.length) ⟨[some 0, some 2, some 1, none, none, none, some 3], [], _, _, _, (by (simp only [Weak, go_sem, List.map_append, List.map_set, *] <;> (try simp (disch := omega) only [wrap_succ]) <;> (try simp) <;> (try omega))), 0, none, hs, [], [], [], (by simp), (by simp), (by exact ⟨by omega, fun h hh => hh, Bk.start _ _, Bk.start _ _, Bk.start _ _⟩), rfl, rfl, rfl⟩ ?_; rintro _ _ _ _ ⟨i, cur, rem, b0, b1, b2, rfl, hi, hP, rfl, rfl, rfl⟩
  refine s_seq rfl ?_
  refine s_next (o := 6) rfl rfl rfl rfl rfl rfl rfl cur (rem.map House.key) (rem.map (MapV g)) (by simp only [go_sem]) (by simp only [go_sem]) (show (17 : Nat) < 54 by decide) (show (18 : Nat) < 54 by decide) (fun hk _ => ?_) (fun r hr1 hr2 => ?_)
  · simp only [go_sem]
    repeat' (first | (with_reducible (show runOps ..); first | (refine Qr rfl ?_; try intro K' hK; try simp only [go_sem, *])) | (with_reducible (show Hold ..); first | refine Qh rfl ?_ | refine s_draw rfl Tryz.mixed (by kernel_rfl) ?_ | (refine s_cond rfl ⟨_, rfl, fun hb => ?_, fun hb => ?_⟩ <;> (have hc := hb; try simp only [go_sem] at hc)) | refine s_ret rfl ?_) | ((with_reducible refine Qb ?_ ?_); focus kernel_rfl) | ((with_reducible refine And.intro ?_ ?_); focus omega) | (refine contA_of hK ?_; clear hK K'; simp only [go_sem, *]) | (simp only [thenA, inBlockA, go_sem, *]))
    obtain rfl : rem = [] := by simpa using hk
    obtain ⟨hlen0, hsub, p0, p1, p2⟩ := hP
    rw [List.flatMap_nil] at p0 p1 p2
    have hl0 := Nat.le_trans p0.len (hlen 0 (by omega))
    have hl1 := Nat.le_trans p1.len (hlen 1 (by omega))
    have hl2 := Nat.le_trans p2.len (hlen 2 (by omega))
    refine s_loop rfl (fun zn zN zenv zAs => ∃ (k : Nat), zn = (3) - k ∧ k ≤ (3) ∧ (NoP k) ∧ zN = 54 ∧ zenv = [(46, iV k), (45, iV 3), (44, .own 2 1 0 3), (4, .ptr 0 0), (5, .ptr 1 0)] ∧ zAs = [.box [nilV], .box [.own 2 1 0 3], .box [.own 3 2 0 b0.length, .own 4 2 0 b1.length, .own 5 2 0 b2.length], .row 2 ((rowS k 0 b0).map Plate.enc), .row 2 ((rowS k 1 b1).map Plate.enc), .row 2 ((rowS k 2 b2).map Plate.enc)]) (3) ⟨[some 0, some 1, some 2, some 3, some 4, some 5], [], _, _, _, (by (simp only [Weak, go_sem, List.map_append, List.map_set, *] <;> (try simp (disch := omega) only [wrap_succ]) <;> (try simp) <;> (try omega))), 0, (by simp), (by simp), (by trivial), rfl, rfl, rfl⟩ ?_; rintro _ _ _ _ ⟨k, rfl, hk, hK, rfl, rfl, rfl⟩
    rcases (by omega : k = 0 ∨ k = 1 ∨ k = 2 ∨ k = 3) with rfl | rfl | rfl | rfl
    · repeat' (first | (with_reducible (show runOps ..); first | (refine Qr rfl ?_; try intro K' hK; try simp only [go_sem, *])) | (with_reducible (show Hold ..); first | refine Qh rfl ?_ | refine s_draw rfl Tryz.mixed (by kernel_rfl) ?_ | (refine s_cond rfl ⟨_, rfl, fun hb => ?_, fun hb => ?_⟩ <;> (have hc := hb; try simp only [go_sem] at hc)) | refine s_ret rfl ?_) | ((with_reducible refine Qb ?_ ?_); focus kernel_rfl) | ((with_reducible refine And.intro ?_ ?_); focus omega) | (refine contA_of hK ?_; clear hK K'; simp only [go_sem, *]) | (simp only [thenA, inBlockA, go_sem, *]))
      refine call_of [3] [] (sp_SortFunc_Plate (by kernel_rfl) sp_comparePlates b0 (by omega)) (by simp) (by simp only [go_sem, *]) (by simp only [go_sem, AObj.live, *]) (by simp) (.inl rfl) (by simp [go_sem]) (by simp) ?_
      simp only [go_sem, AObj.ren, *]
      repeat' (first | (with_reducible (show runOps ..); first | (refine Qr rfl ?_; try intro K' hK; try simp only [go_sem, *])) | (with_reducible (show Hold ..); first | refine Qh rfl ?_ | refine s_draw rfl Tryz.mixed (by kernel_rfl) ?_ | (refine s_cond rfl ⟨_, rfl, fun hb => ?_, fun hb => ?_⟩ <;> (have hc := hb; try simp only [go_sem] at hc)) | refine s_ret rfl ?_) | ((with_reducible refine Qb ?_ ?_); focus kernel_rfl) | ((with_reducible refine And.intro ?_ ?_); focus omega) | (refine contA_of hK ?_; clear hK K'; simp only [go_sem, *]) | (simp only [thenA, inBlockA, go_sem, *]))
      refine ⟨_, (by omega), [some 0, some 1, some 2, some 3, some 4, some 5], [], _, _, _, (by (simp only [Weak, go_sem, List.map_append, List.map_set, *] <;> (try simp (disch := omega) only [wrap_succ]) <;> (try simp) <;> (try omega))), 0 + 1, rfl, (by omega), (by trivial), rfl, rfl, rfl⟩
    · repeat' (first | (with_reducible (show runOps ..); first | (refine Qr rfl ?_; try intro K' hK; try simp only [go_sem, *])) | (with_reducible (show Hold ..); first | refine Qh rfl ?_ | refine s_draw rfl Tryz.mixed (by kernel_rfl) ?_ | (refine s_cond rfl ⟨_, rfl, fun hb => ?_, fun hb => ?_⟩ <;> (have hc := hb; try simp only [go_sem] at hc)) | refine s_ret rfl ?_) | ((with_reducible refine Qb ?_ ?_); focus kernel_rfl) | ((with_reducible refine And.intro ?_ ?_); focus omega) | (refine contA_of hK ?_; clear hK K'; simp only [go_sem, *]) | (simp only [thenA, inBlockA, go_sem, *]))
      refine call_of [4] [] (sp_SortFunc_Plate (by kernel_rfl) sp_comparePlates b1 (by omega)) (by simp) (by simp only [go_sem, *]) (by simp only [go_sem, AObj.live, *]) (by simp) (.inl rfl) (by simp [go_sem]) (by simp) ?_
      simp only [go_sem, AObj.ren, *]
      repeat' (first | (with_reducible (show runOps ..); first | (refine Qr rfl ?_; try intro K' hK; try simp only [go_sem, *])) | (with_reducible (show Hold ..); first | refine Qh rfl ?_ | refine s_draw rfl Tryz.mixed (by kernel_rfl) ?_ | (refine s_cond rfl ⟨_, rfl, fun hb => ?_, fun hb => ?_⟩ <;> (have hc := hb; try simp only [go_sem] at hc)) | refine s_ret rfl ?_) | ((with_reducible refine Qb ?_ ?_); focus kernel_rfl) | ((with_reducible refine And.intro ?_ ?_); focus omega) | (refine contA_of hK ?_; clear hK K'; simp only [go_sem, *]) | (simp only [thenA, inBlockA, go_sem, *]))
      refine ⟨_, (by omega), [some 0, some 1, some 2, some 3, some 4, some 5], [], _, _, _, (by (simp only [Weak, go_sem, List.map_append, List.map_set, *] <;> (try simp (disch := omega) only [wrap_succ]) <;> (try simp) <;> (try omega))), 1 + 1, rfl, (by omega), (by trivial), rfl, rfl, rfl⟩
    · repeat' (first | (with_reducible (show runOps ..); first | (refine Qr rfl ?_; try intro K' hK; try simp only [go_sem, *])) | (with_reducible (show Hold ..); first | refine Qh rfl ?_ | refine s_draw rfl Tryz.mixed (by kernel_rfl) ?_ | (refine s_cond rfl ⟨_, rfl, fun hb => ?_, fun hb => ?_⟩ <;> (have hc := hb; try simp only [go_sem] at hc)) | refine s_ret rfl ?_) | ((with_reducible refine Qb ?_ ?_); focus kernel_rfl) | ((with_reducible refine And.intro ?_ ?_); focus omega) | (refine contA_of hK ?_; clear hK K'; simp only [go_sem, *]) | (simp only [thenA, inBlockA, go_sem, *]))
      refine call_of [5] [] (sp_SortFunc_Plate (by kernel_rfl) sp_comparePlates b2 (by omega)) (by simp) (by simp only [go_sem, *]) (by simp only [go_sem, AObj.live, *]) (by simp) (.inl rfl) (by simp [go_sem]) (by simp) ?_
      simp only [go_sem, AObj.ren, *]
      repeat' (first | (with_reducible (show runOps ..); first | (refine Qr rfl ?_; try intro K' hK; try simp only [go_sem, *])) | (with_reducible (show Hold ..); first | refine Qh rfl ?_ | refine s_draw rfl Tryz.mixed (by kernel_rfl) ?_ | (refine s_cond rfl ⟨_, rfl, fun hb => ?_, fun hb => ?_⟩ <;> (have hc := hb; try simp only [go_sem] at hc)) | refine s_ret rfl ?_) | ((with_reducible refine Qb ?_ ?_); focus kernel_rfl) | ((with_reducible refine And.intro ?_ ?_); focus omega) | (refine contA_of hK ?_; clear hK K'; simp only [go_sem, *]) | (simp only [thenA, inBlockA, go_sem, *]))
      refine ⟨_, (by omega), [some 0, some 1, some 2, some 3, some 4, some 5], [], _, _, _, (by (simp only [Weak, go_sem, List.map_append, List.map_set, *] <;> (try simp (disch := omega) only [wrap_succ]) <;> (try simp) <;> (try omega))), 2 + 1, rfl, (by omega), (by trivial), rfl, rfl, rfl⟩
    · repeat' (first | (with_reducible (show runOps ..); first | (refine Qr rfl ?_; try intro K' hK; try simp only [go_sem, *])) | (with_reducible (show Hold ..); first | refine Qh rfl ?_ | refine s_draw rfl Tryz.mixed (by kernel_rfl) ?_ | (refine s_cond rfl ⟨_, rfl, fun hb => ?_, fun hb => ?_⟩ <;> (have hc := hb; try simp only [go_sem] at hc)) | refine s_ret rfl ?_) | ((with_reducible refine Qb ?_ ?_); focus kernel_rfl) | ((with_reducible refine And.intro ?_ ?_); focus omega) | (refine contA_of hK ?_; clear hK K'; simp only [go_sem, *]) | (simp only [thenA, inBlockA, go_sem, *]))
      have e : laid (hs.flatMap g) 3 = [isort cmpP b0, isort cmpP b1, isort cmpP b2] := by
        rw [p0.fin hnd (n := 3) (by omega), p1.fin hnd (n := 3) (by omega), p2.fin hnd (n := 3) (by omega)]; simp [laid, rowAt, List.range_succ]
      refine ⟨[.agg [.own 2 1 0 3]], [], [2, 3, 4, 5], ⟨by simp only [resOne, go_sem], trivial⟩, ?_⟩
      simp only [go_sem, e, *]
      exact .inr (by simp)
  · obtain ⟨hr, hrk, hrx⟩ : ∃ hr : r < rem.length, (rem.map House.key)[r] = (rem[r]).key ∧ (rem.map (MapV g))[r] = .list ((g rem[r]).map House.enc) := ⟨by simpa using hr1, by simp, by simp [MapV]⟩
    rw [hrk, hrx, ← map_eraseIdx', ← map_eraseIdx']
    generalize (rem[r]).key = kk at *
    clear hrk
    simp only [go_sem]
    repeat' (first | (with_reducible (show runOps ..); first | (refine Qr rfl ?_; try intro K' hK; try simp only [go_sem, *])) | (with_reducible (show Hold ..); first | refine Qh rfl ?_ | refine s_draw rfl Tryz.mixed (by kernel_rfl) ?_ | (refine s_cond rfl ⟨_, rfl, fun hb => ?_, fun hb => ?_⟩ <;> (have hc := hb; try simp only [go_sem] at hc)) | refine s_ret rfl ?_) | ((with_reducible refine Qb ?_ ?_); focus kernel_rfl) | ((with_reducible refine And.intro ?_ ?_); focus omega) | (refine contA_of hK ?_; clear hK K'; simp only [go_sem, *]) | (simp only [thenA, inBlockA, go_sem, *]))
    obtain ⟨hlen0, hsub, p0, p1, p2⟩ := hP
    have p0 := p0.pick r hr
    have p1 := p1.pick r hr
    have p2 := p2.pick r hr
    have hll : (g rem[r]).length ≤ 1000 := hgl _ (hsub _ (List.getElem_mem hr))
    have hsl2 : ∀ z, z ∈ g rem[r] → 0 ≤ z.street ∧ z.street < 3 := fun z hz => hst z (List.mem_flatMap.2 ⟨_, hsub _ (List.getElem_mem hr), hz⟩)
    clear hrx
    generalize g rem[r] = l at *
    refine s_loop rfl (fun zn zN zenv zAs => ∃ (j : Nat) (b0 : List Plate) (b1 : List Plate) (b2 : List Plate), zn = (l.length) - j ∧ j ≤ (l.length) ∧ (AfQ3 (l.drop j ++ (rem.eraseIdx r).flatMap g) (hs.flatMap g) b0 b1 b2) ∧ zN = 54 ∧ zenv = [(23, iV j), (22, iV l.length), (21, encHouses l), (4, .ptr 0 0), (5, .ptr 1 0), (16, .ptr 6 0)] ∧ zAs = [.box [nilV], .box [.own 2 1 0 3], .box [.own 3 2 0 b0.length, .own 4 2 0 b1.length, .own 5 2 0 b2.length], .row 2 (b0.map Plate.enc), .row 2 (b1.map Plate.enc), .row 2 (b2.map Plate.enc), .iter (some (kk, .list (l.map House.enc))) ((rem.eraseIdx r).map House.key) ((rem.eraseIdx r).map (MapV g))]) (l.length) ⟨[some 0, some 1, some 2, some 3, some 4, some 5, some 6], [], _, _, _, (by (simp only [Weak, go_sem, List.map_append, List.map_set, *] <;> (try simp (disch := omega) only [wrap_succ]) <;> (try simp) <;> (try omega))), 0, b0, b1, b2, (by simp), (by simp), (by exact ⟨p0, p1, p2⟩), rfl, rfl, rfl⟩ ?_; rintro _ _ _ _ ⟨j, b0, b1, b2, rfl, hj, hQ, rfl, rfl, rfl⟩
    by_cases hj : j < l.length
    · have hz := hsl2 _ (getD_mem hj)
      have hdj := drop_cons hj
      rw [hdj, List.cons_append] at hQ
      obtain ⟨q0, q1, q2⟩ := hQ
      have hl0 := Nat.le_trans q0.len (hlen 0 (by omega))
      have hl1 := Nat.le_trans q1.len (hlen 1 (by omega))
      have hl2 := Nat.le_trans q2.len (hlen 2 (by omega))
      clear hdj
      rcases (by omega : (l.getD j default).street = 0 ∨ (l.getD j default).street = 1 ∨ (l.getD j default).street = 2) with hs0 | hs0 | hs0
      · repeat' (first | (with_reducible (show runOps ..); first | (refine Qr rfl ?_; try intro K' hK; try simp only [go_sem, *])) | (with_reducible (show Hold ..); first | refine Qh rfl ?_ | refine s_draw rfl Tryz.mixed (by kernel_rfl) ?_ | (refine s_cond rfl ⟨_, rfl, fun hb => ?_, fun hb => ?_⟩ <;> (have hc := hb; try simp only [go_sem] at hc)) | refine s_ret rfl ?_) | ((with_reducible refine Qb ?_ ?_); focus kernel_rfl) | ((with_reducible refine And.intro ?_ ?_); focus omega) | (refine contA_of hK ?_; clear hK K'; simp only [go_sem, *]) | (simp only [thenA, inBlockA, go_sem, *]))
        refine ⟨_, (by omega), [some 0, some 1, some 2, some 9, some 4, some 5, some 6], [], _, _, _, (by (simp only [Weak, go_sem, List.map_append, List.map_set, *] <;> (try simp (disch := omega) only [wrap_succ]) <;> (try simp) <;> (try omega))), j + 1, b0 ++ [(l.getD j default).plate], b1, b2, rfl, (by omega), (by exact ⟨q0.step_in (by rw [hs0]; rfl), q1.step_out (by rw [hs0]; decide), q2.step_out (by rw [hs0]; decide)⟩), rfl, rfl, rfl⟩
      · repeat' (first | (with_reducible (show runOps ..); first | (refine Qr rfl ?_; try intro K' hK; try simp only [go_sem, *])) | (with_reducible (show Hold ..); first | refine Qh rfl ?_ | refine s_draw rfl Tryz.mixed (by kernel_rfl) ?_ | (refine s_cond rfl ⟨_, rfl, fun hb => ?_, fun hb => ?_⟩ <;> (have hc := hb; try simp only [go_sem] at hc)) | refine s_ret rfl ?_) | ((with_reducible refine Qb ?_ ?_); focus kernel_rfl) | ((with_reducible refine And.intro ?_ ?_); focus omega) | (refine contA_of hK ?_; clear hK K'; simp only [go_sem, *]) | (simp only [thenA, inBlockA, go_sem, *]))
        refine ⟨_, (by omega), [some 0, some 1, some 2, some 3, some 9, some 5, some 6], [], _, _, _, (by (simp only [Weak, go_sem, List.map_append, List.map_set, *] <;> (try simp (disch := omega) only [wrap_succ]) <;> (try simp) <;> (try omega))), j + 1, b0, b1 ++ [(l.getD j default).plate], b2, rfl, (by omega), (by exact ⟨q0.step_out (by rw [hs0]; decide), q1.step_in (by rw [hs0]; rfl), q2.step_out (by rw [hs0]; decide)⟩), rfl, rfl, rfl⟩
      · repeat' (first | (with_reducible (show runOps ..); first | (refine Qr rfl ?_; try intro K' hK; try simp only [go_sem, *])) | (with_reducible (show Hold ..); first | refine Qh rfl ?_ | refine s_draw rfl Tryz.mixed (by kernel_rfl) ?_ | (refine s_cond rfl ⟨_, rfl, fun hb => ?_, fun hb => ?_⟩ <;> (have hc := hb; try simp only [go_sem] at hc)) | refine s_ret rfl ?_) | ((with_reducible refine Qb ?_ ?_); focus kernel_rfl) | ((with_reducible refine And.intro ?_ ?_); focus omega) | (refine contA_of hK ?_; clear hK K'; simp only [go_sem, *]) | (simp only [thenA, inBlockA, go_sem, *]))
        refine ⟨_, (by omega), [some 0, some 1, some 2, some 3, some 4, some 9, some 6], [], _, _, _, (by (simp only [Weak, go_sem, List.map_append, List.map_set, *] <;> (try simp (disch := omega) only [wrap_succ]) <;> (try simp) <;> (try omega))), j + 1, b0, b1, b2 ++ [(l.getD j default).plate], rfl, (by omega), (by exact ⟨q0.step_out (by rw [hs0]; decide), q1.step_out (by rw [hs0]; decide), q2.step_in (by rw [hs0]; rfl)⟩), rfl, rfl, rfl⟩
    · repeat' (first | (with_reducible (show runOps ..); first | (refine Qr rfl ?_; try intro K' hK; try simp only [go_sem, *])) | (with_reducible (show Hold ..); first | refine Qh rfl ?_ | refine s_draw rfl Tryz.mixed (by kernel_rfl) ?_ | (refine s_cond rfl ⟨_, rfl, fun hb => ?_, fun hb => ?_⟩ <;> (have hc := hb; try simp only [go_sem] at hc)) | refine s_ret rfl ?_) | ((with_reducible refine Qb ?_ ?_); focus kernel_rfl) | ((with_reducible refine And.intro ?_ ?_); focus omega) | (refine contA_of hK ?_; clear hK K'; simp only [go_sem, *]) | (simp only [thenA, inBlockA, go_sem, *]))
      rw [drop_end (by omega), List.nil_append] at hQ
      refine ⟨_, (by omega), [some 0, some 1, some 2, some 3, some 4, some 5, some 6], [], _, _, _, (by (simp only [Weak, go_sem, List.map_append, List.map_set, *] <;> (try simp (disch := omega) only [wrap_succ]) <;> (try simp) <;> (try omega))), i + 1, (some (kk, .list (l.map House.enc))), rem.eraseIdx r, b0, b1, b2, rfl, (by omega), (by exact ⟨by rw [List.length_eraseIdx_of_lt hr]; omega, fun h hh => hsub h ((List.eraseIdx_sublist _ _).subset hh), hQ⟩), rfl, rfl, rfl⟩
end Go.Abs

namespace Go.Abs
open Go Go.Proofs
set_option maxRecDepth 10000
theorem zero_plate (x : Plate) : (x.number == 0 && x.letter == 0) = decide (x = zeroPlate) := plate_beq x zeroPlate
theorem bf {a : Bool} (h : ¬ a = true) : a = false := by simpa using h
theorem sp_effect_all (p : Plan) (c : Change) (v : Valid p) :
    (can p c ≠ 0 → Spec Tryz.prog 125 [encPlan p, c.enc] [] (.tup [.raw (.map none), iV (can p c)]) []) ∧
    (can p c = 0 → Spec Tryz.prog 125 [encPlan p, c.enc] [] (.tup [.mp 0, iV 0]) [.mapo (keysP p) (movesP p (mv p c))]) := by
  have hl : p.length ≤ 1000 := by have := v.len; omega
  unfold can
  by_cases hk : betw c.kind 1 7 = true
  rotate_left
  · rw [if_pos (bf hk)]; exact ⟨fun _ => eff_kind p c hl (bf hk), fun h => absurd h (by omega)⟩
  rw [if_neg (by simp [hk])]
  by_cases hs : betw c.street 0 ((p.length : Int) - 1) = true
  rotate_left
  · rw [if_pos (bf hs)]; exact ⟨fun _ => eff_street p c hl hk (bf hs), fun h => absurd h (by omega)⟩
  rw [if_neg (by simp [hs])]
  have hk' := betw_iff.1 hk
  have hs' := betw_iff.1 hs
  by_cases h4 : c.kind = 4
  · have k4 : (c.kind == 4) = true := by simp [h4]
    have k7 : (c.kind == 7) = false := by simp [h4]
    have k5 : decide (c.kind ≥ 5) = false := by simp [h4]
    by_cases ho : betw c.other 0 ((p.length : Int) - 1) = true
    rotate_left
    · rw [if_pos ⟨.inl h4, bf ho⟩]; exact ⟨fun _ => eff_o4 p c hl hk hs k4 (bf ho), fun h => absurd h (by omega)⟩
    rw [if_neg (by simp [ho])]
    have ho' := betw_iff.1 ho
    by_cases hr : c.other = c.street
    · rw [if_pos ⟨.inl h4, hr⟩]; exact ⟨fun _ => eff_r4 p c hl hk hs k4 ho (by simp [hr]), fun h => absurd h (by omega)⟩
    rw [if_neg (by simp [hr])]
    have hr' : (c.other == c.street) = false := by simp [hr]
    by_cases hz : c.src = zeroPlate
    rotate_left
    · rw [if_pos (.inr (.inl ⟨by omega, hz⟩))]; exact ⟨fun _ => eff_b4 p c hl hk hs k4 ho hr' k5 (by rw [zero_plate]; simp [hz]), fun h => absurd h (by omega)⟩
    have hz' : (c.src.number == 0 && c.src.letter == 0) = true := by rw [zero_plate]; simp [hz]
    by_cases hd : c.dst = zeroPlate
    rotate_left
    · rw [if_pos (.inr (.inr ⟨by omega, hd⟩))]; exact ⟨fun _ => eff_c4 p c hl hk hs k4 k7 ho hr' k5 hz' (by rw [zero_plate]; simp [hd]), fun h => absurd h (by omega)⟩
    have hd' : (c.dst.number == 0 && c.dst.letter == 0) = true := by rw [zero_plate]; simp [hd]
    rw [if_neg (by simp [h4, hz, hd])]
    have sp := eff_k4 p c v ⟨hk', by omega, fun _ => by omega⟩ h4 ho hr' hz' hd'
    exact ⟨fun h => by simpa [effR, effO, h] using sp, fun h => by simpa [effR, effO, h] using sp⟩
  · by_cases h7 : c.kind = 7
    · have k4 : (c.kind == 4) = false := by simp [h7]
      have k7 : (c.kind == 7) = true := by simp [h7]
      by_cases ho : betw c.other 0 ((p.length : Int) - 1) = true
      rotate_left
      · rw [if_pos ⟨.inr h7, bf ho⟩]; exact ⟨fun _ => eff_o7 p c hl hk hs k4 k7 (bf ho), fun h => absurd h (by omega)⟩
      rw [if_neg (by simp [ho])]
      have ho' := betw_iff.1 ho
      by_cases hr : c.other = c.street
      · rw [if_pos ⟨.inr h7, hr⟩]; exact ⟨fun _ => eff_r7 p c hl hk hs k4 k7 ho (by simp [hr]), fun h => absurd h (by omega)⟩
      rw [if_neg (by simp [hr])]
      rw [if_neg (by simp [h7])]
      have sp := eff_k7 p c v ⟨hk', by omega, fun _ => by omega⟩ h7 ho (by simp [hr])
      exact ⟨fun h => by simpa [effR, effO, h] using sp, fun h => by simpa [effR, effO, h] using sp⟩
    · have k4 : (c.kind == 4) = false := by simp [h4]
      have k7 : (c.kind == 7) = false := by simp [h7]
      rw [if_neg (by simp [h4, h7]), if_neg (by simp [h4, h7])]
      by_cases ho : c.other = 0
      rotate_left
      · rw [if_pos (.inl ⟨by simp [h4, h7], ho⟩)]; exact ⟨fun _ => eff_a p c hl hk hs k4 k7 (by simp [ho]), fun h => absurd h (by omega)⟩
      have ho' : (c.other != 0) = false := by simp [ho]
      by_cases h5 : 5 ≤ c.kind
      · have k5 : decide (c.kind ≥ 5) = true := by simp; omega
        by_cases hd : c.dst = zeroPlate
        rotate_left
        · rw [if_pos (.inr (.inr ⟨h7, hd⟩))]; exact ⟨fun _ => eff_c5 p c hl hk hs k4 k7 ho' k5 (by rw [zero_plate]; simp [hd]), fun h => absurd h (by omega)⟩
        have hd' : (c.dst.number == 0 && c.dst.letter == 0) = true := by rw [zero_plate]; simp [hd]
        rw [if_neg (by simp [h4, h7, ho, h5, hd])]
        have f : Pre p c := ⟨hk', by omega, fun _ => by omega⟩
        rcases (by omega : c.kind = 5 ∨ c.kind = 6) with k | k
        · have sp := eff_k5 p c v f k ho' hd'
          exact ⟨fun h => by simpa [effR, effO, h] using sp, fun h => by simpa [effR, effO, h] using sp⟩
        · have sp := eff_k6 p c v f k ho' hd'
          exact ⟨fun h => by simpa [effR, effO, h] using sp, fun h => by simpa [effR, effO, h] using sp⟩
      · have k5 : decide (c.kind ≥ 5) = false := by simp; omega
        by_cases hz : c.src = zeroPlate
        rotate_left
        · rw [if_pos (.inr (.inl ⟨h5, hz⟩))]; exact ⟨fun _ => eff_b p c hl hk hs k4 k7 ho' k5 (by rw [zero_plate]; simp [hz]), fun h => absurd h (by omega)⟩
        have hz' : (c.src.number == 0 && c.src.letter == 0) = true := by rw [zero_plate]; simp [hz]
        by_cases hd : c.dst = zeroPlate
        rotate_left
        · rw [if_pos (.inr (.inr ⟨h7, hd⟩))]; exact ⟨fun _ => eff_c p c hl hk hs k4 k7 ho' k5 hz' (by rw [zero_plate]; simp [hd]), fun h => absurd h (by omega)⟩
        have hd' : (c.dst.number == 0 && c.dst.letter == 0) = true := by rw [zero_plate]; simp [hd]
        rw [if_neg (by simp [h4, h7, ho, hz, hd])]
        have f : Pre p c := ⟨hk', by omega, fun _ => by omega⟩
        rcases (by omega : c.kind = 1 ∨ c.kind = 2 ∨ c.kind = 3) with k | k | k
        · have sp := eff_k1 p c v f k ho' hz' hd'
          exact ⟨fun h => by simpa [effR, effO, h] using sp, fun h => by simpa [effR, effO, h] using sp⟩
        · have sp := eff_k2 p c v f k ho' hz' hd'
          exact ⟨fun h => by simpa [effR, effO, h] using sp, fun h => by simpa [effR, effO, h] using sp⟩
        · have sp := eff_k3 p c v f k ho' hz' hd'
          exact ⟨fun h => by simpa [effR, effO, h] using sp, fun h => by simpa [effR, effO, h] using sp⟩
theorem toP_len {p : Plan} {c : Change} (f : Fit p c) (x : Plate) : (toP p c x).length ≤ 2 := by
  rcases kinds f.kind with k | k | k | k | k | k | k
  · rw [to_turn k]; simp
  · rw [to_swap k]; simp
  · rw [to_count k]; simp
  · rw [to_join k]; simp
  · rw [to_divide k]; split <;> simp
  · rw [to_fell k]; split <;> simp
  · rw [to_court k]; split <;> simp
theorem mv_len {p : Plan} {c : Change} (f : Fit p c) (h : House) : (mv p c h).length ≤ 2 := by
  unfold mv; split
  · exact toP_len f _
  · simp
theorem bucket_len {p : Plan} {c : Change} (v : Valid p) (f : Fit p c) (s : Nat) (hs : s < p.length) : ((flatMv p c).filter (fun h => h.street == (s : Int))).length ≤ 8 := by
  have h := after_row_len v f (s := s) (by omega) (by omega)
  refine Nat.le_trans ?_ h
  rw [← List.length_map (f := House.plate)]
  have hnd : (((flatMv p c).filter (fun h => h.street == (s : Int))).map House.plate).Nodup := by
    rw [List.nodup_iff_pairwise_ne, List.pairwise_map]
    refine ((flatMv_nodup v f).filter _).imp_of_mem (fun {a b} ha hb' hab e => hab ?_)
    have h1 := (List.mem_filter.1 ha).2
    have h2 := (List.mem_filter.1 hb').2
    simp at h1 h2
    cases a; cases b; simp_all
  refine nodup_len hnd (fun x hx => ?_)
  obtain ⟨z, hz, rfl⟩ := List.mem_map.1 hx
  obtain ⟨h1, h2⟩ := List.mem_filter.1 hz
  rw [afterOf, mem_laid_row (by omega) (by omega)]
  simp at h2
  rw [← h2]; exact h1
theorem sp_after (p : Plan) (c : Change) (v : Valid p) (f : Fit p c) : Spec Tryz.prog 89 [.fmap (keysP p) (movesP p (mv p c)), iV p.length] [] (encPlan (afterOf p c)) [] := by
  have hst : ∀ z, z ∈ (housesOf p).flatMap (mv p c) → 0 ≤ z.street ∧ z.street < p.length := fun z hz => by have := flatMv_in v f (z := z) hz; omega
  have hlen : ∀ s : Nat, s < p.length → (((housesOf p).flatMap (mv p c)).filter (fun h => h.street == (s : Int))).length ≤ 12 := fun s hs => by have := bucket_len v f s hs; unfold flatMv at this; omega
  have hsl : (housesOf p).length ≤ 1000 := by have := v.count; omega
  have hgl : ∀ h, h ∈ housesOf p → (mv p c h).length ≤ 1000 := fun h _ => by have := mv_len f h; omega
  have hnd := flatMv_nodup v f
  have h0 := v.ne
  have h3 := v.len
  unfold afterOf flatMv
  rcases (by omega : p.length = 1 ∨ p.length = 2 ∨ p.length = 3) with e | e | e <;> rw [e] at hst hlen ⊢
  · exact sp_after1 _ _ hst hnd hlen hsl hgl
  · exact sp_after2 _ _ hst hnd hlen hsl hgl
  · exact sp_after3 _ _ hst hnd hlen hsl hgl
theorem sp_made (p : Plan) (c : Change) (hp : p.length ≤ 4294967296) :
    (errOf p c ≠ 0 → Spec Tryz.prog 88 [encPlan p, c.enc] [] (.tup [.raw (.map none), iV (errOf p c)]) []) ∧
    (errOf p c = 0 → Spec Tryz.prog 88 [encPlan p, c.enc] [] (.tup [.mp 0, iV 0]) [.mapo (keysP p) (movesP p (mv p c))]) := by
  by_cases hc : check p = 0
  · have v := (check_zero p).1 hc
    have e : errOf p c = can p c := by simp [errOf, hc]
    rw [e]
    obtain ⟨s1, s2⟩ := sp_effect_all p c v
    refine ⟨fun h => ?_, fun h => ?_⟩
    · have s := s1 h
      refine spec_body Tryz.func88 rfl (fun E hE => ?_); simp only [go_sem, Tryz.ntmps88]
      repeat' (first | (with_reducible (show runOps ..); first | (refine Qr rfl ?_; try intro K' hK; try simp only [go_sem, *])) | (with_reducible (show Hold ..); first | refine Qh rfl ?_ | (refine s_cond rfl ⟨_, rfl, fun hb => ?_, fun hb => ?_⟩ <;> (have hc := hb; try simp only [go_sem] at hc)) | refine s_ret rfl ?_) | (with_reducible (show callA ..); first | ((first | refine call_s (sp_Check p hp) ?_ ?_ | refine call_s (s) ?_ ?_); (focus (simp only [go_sem, *]; done)); simp only [go_sem, *])) | ((with_reducible refine Qb ?_ ?_); focus kernel_rfl) | ((with_reducible refine And.intro ?_ ?_); focus omega) | (refine contA_of hK ?_; clear hK K'; simp only [go_sem, *]) | (simp only [thenA, inBlockA, go_sem, *]))
      all_goals (refine ⟨[_, _], [], [], ⟨rfl, rfl, trivial⟩, ?_⟩; simp only [go_sem, *])
    · have s := s2 h
      refine spec_body Tryz.func88 rfl (fun E hE => ?_); simp only [go_sem, Tryz.ntmps88]
      repeat' (first | (with_reducible (show runOps ..); first | (refine Qr rfl ?_; try intro K' hK; try simp only [go_sem, *])) | (with_reducible (show Hold ..); first | refine Qh rfl ?_ | (refine s_cond rfl ⟨_, rfl, fun hb => ?_, fun hb => ?_⟩ <;> (have hc := hb; try simp only [go_sem] at hc)) | refine s_ret rfl ?_) | (with_reducible (show callA ..); first | (refine call_s (sp_Check p hp) ?_ ?_; (focus (simp only [go_sem, *]; done)); simp only [go_sem, *]) | (refine call_n (s) ?_ ?_ ?_ ?_; (focus (simp only [go_sem, *]; done)); (focus (first | (simp; done) | (simp [go_sem]; done))); (focus (first | (simp; done) | (simp [go_sem]; done))); simp only [go_sem, *])) | ((with_reducible refine Qb ?_ ?_); focus kernel_rfl) | ((with_reducible refine And.intro ?_ ?_); focus omega) | (refine contA_of hK ?_; clear hK K'; simp only [go_sem, *]) | (simp only [thenA, inBlockA, go_sem, *]))
      refine ⟨[_, _], [some 2], [], ⟨rfl, rfl, trivial⟩, ?_⟩
      simp only [go_sem]
  · have e : errOf p c = check p := by simp [errOf, hc]
    rw [e]
    refine ⟨fun h => ?_, fun h => absurd h hc⟩
    refine spec_body Tryz.func88 rfl (fun E hE => ?_); simp only [go_sem, Tryz.ntmps88]
    repeat' (first | (with_reducible (show runOps ..); first | (refine Qr rfl ?_; try intro K' hK; try simp only [go_sem, *])) | (with_reducible (show Hold ..); first | refine Qh rfl ?_ | (refine s_cond rfl ⟨_, rfl, fun hb => ?_, fun hb => ?_⟩ <;> (have hc := hb; try simp only [go_sem] at hc)) | refine s_ret rfl ?_) | (with_reducible (show callA ..); first | (refine call_s (sp_Check p hp) ?_ ?_; (focus (simp only [go_sem, *]; done)); simp only [go_sem, *])) | ((with_reducible refine Qb ?_ ?_); focus kernel_rfl) | ((with_reducible refine And.intro ?_ ?_); focus omega) | (refine contA_of hK ?_; clear hK K'; simp only [go_sem, *]) | (simp only [thenA, inBlockA, go_sem, *]))
    all_goals first | contradiction | (refine ⟨[_, _], [], [], ⟨rfl, rfl, trivial⟩, ?_⟩; simp only [go_sem, *])
theorem call_fz {P : Program} {f : FuncId} {avs args : List AV} {H : Nat → AObj} {nx : Nat} {K : Cont} {r : AV} {out : List AObj} {gone : List Nat} (sp : Spec P f args [] r out) (ha : (avs.map fun x => (frzV H 3 x).1) = args) (hg : (avs.map fun x => (frzV H 3 x).2).flatten = gone)
    (hx : XpL (fun o => if o ∈ gone then .dead else H o) [] [] args args) (hu : ∀ j, j < out.length → (if nx + j ∈ gone then AObj.dead else H (nx + j)) = .unb) (h7 : ∀ A, A ∈ out → A ≠ .unb)
    (hk : K (r.ren (backId [] nx)) (gone ++ newIds [] nx out) (deads gone ++ backObjs [] nx out)) : callA P f avs H nx K := by
  refine call_frz ?_
  rw [ha, hg]
  exact callB_of [] [] sp (by simp) hx trivial (by simp) (.inl rfl) (fun j hj => hu j (by simpa using hj)) h7 (by simpa using hk)
theorem sp_After (p : Plan) (c : Change) (hp : p.length ≤ 4294967296) :
    Spec Tryz.prog 25 [encPlan p, c.enc] [] (.tup [encPlan (if errOf p c = 0 then afterOf p c else []), iV (errOf p c)]) [] := by
  obtain ⟨s1, s2⟩ := sp_made p c hp
  by_cases e : errOf p c = 0
  · have hc : check p = 0 := by
      unfold errOf at e
      split at e <;> assumption
    have hcan : can p c = 0 := by unfold errOf at e; rw [if_pos hc] at e; exact e
    have v := (check_zero p).1 hc
    have f := Fit.of_can hcan
    have s := s2 e
    have sa := sp_after p c v f
    rw [if_pos e, e]
    clear s1 s2
    refine spec_body Tryz.func25 rfl (fun E hE => ?_); simp only [go_sem, Tryz.ntmps25]
    repeat' (first | (with_reducible (show runOps ..); first | (refine Qr rfl ?_; try intro K' hK; try simp only [go_sem, *])) | (with_reducible (show Hold ..); first | refine Qh rfl ?_ | (refine s_cond rfl ⟨_, rfl, fun hb => ?_, fun hb => ?_⟩ <;> (have hc := hb; try simp only [go_sem] at hc)) | refine s_ret rfl ?_) | (with_reducible (show callA ..); first | (refine call_n (s) ?_ ?_ ?_ ?_; (focus (simp only [go_sem, *]; done)); (focus (first | (simp; done) | (simp [go_sem]; done))); (focus (first | (simp; done) | (simp [go_sem]; done))); simp only [go_sem, *])) | ((with_reducible refine Qb ?_ ?_); focus kernel_rfl) | ((with_reducible refine And.intro ?_ ?_); focus omega) | (refine contA_of hK ?_; clear hK K'; simp only [go_sem, *]) | (simp only [thenA, inBlockA, go_sem, *]))
    refine call_fz (gone := [3]) sa (by simp only [go_sem]) (by simp only [go_sem]) (by simp only [go_sem]) (by simp) (by simp) ?_
    simp only [go_sem, deads]
    repeat' (first | (with_reducible (show runOps ..); first | (refine Qr rfl ?_; try intro K' hK; try simp only [go_sem, *])) | (with_reducible (show Hold ..); first | refine Qh rfl ?_ | (refine s_cond rfl ⟨_, rfl, fun hb => ?_, fun hb => ?_⟩ <;> (have hc := hb; try simp only [go_sem] at hc)) | refine s_ret rfl ?_) | ((with_reducible refine Qb ?_ ?_); focus kernel_rfl) | ((with_reducible refine And.intro ?_ ?_); focus omega) | (refine contA_of hK ?_; clear hK K'; simp only [go_sem, *]) | (simp only [thenA, inBlockA, go_sem, *]))
    refine ⟨[encPlan (afterOf p c), iV 0], [], [], ⟨(by simp only [resOne, go_sem]), rfl, trivial⟩, ?_⟩; simp only [go_sem, *]
  · have s := s1 e
    rw [if_neg e]
    clear s1 s2
    refine spec_body Tryz.func25 rfl (fun E hE => ?_); simp only [go_sem, Tryz.ntmps25]
    repeat' (first | (with_reducible (show runOps ..); first | (refine Qr rfl ?_; try intro K' hK; try simp only [go_sem, *])) | (with_reducible (show Hold ..); first | refine Qh rfl ?_ | (refine s_cond rfl ⟨_, rfl, fun hb => ?_, fun hb => ?_⟩ <;> (have hc := hb; try simp only [go_sem] at hc)) | refine s_ret rfl ?_) | (with_reducible (show callA ..); first | (refine call_s (s) ?_ ?_; (focus (simp only [go_sem, *]; done)); simp only [go_sem, *])) | ((with_reducible refine Qb ?_ ?_); focus kernel_rfl) | ((with_reducible refine And.intro ?_ ?_); focus omega) | (refine contA_of hK ?_; clear hK K'; simp only [go_sem, *]) | (simp only [thenA, inBlockA, go_sem, *]))
    all_goals first | contradiction | skip
    refine ⟨[.agg [nilV], iV (errOf p c)], [], [], ⟨(by simp only [resOne, go_sem]), rfl, trivial⟩, ?_⟩; simp only [go_sem, *]
end Go.Abs

namespace Go.Abs
open Go Go.Proofs
set_option maxRecDepth 10000
section
variable {α : Type} {a b : List α} {i : Nat}
theorem tk_end (ha : a.length ≤ i) (hl : a.length = b.length) (h : a.take i = b.take i) : a = b := by
  rwa [List.take_of_length_le ha, List.take_of_length_le (by omega)] at h
variable [Inhabited α]
theorem tk_succ {l : List α} (h : i < l.length) : l.take (i + 1) = l.take i ++ [l.getD i default] := by
  rw [List.take_add_one]; simp [List.getD, h]
theorem tk_next (ha : i < a.length) (hb : i < b.length) (h : a.take i = b.take i) (e : a.getD i default = b.getD i default) : a.take (i + 1) = b.take (i + 1) := by
  rw [tk_succ ha, tk_succ hb, h, e]
theorem tk_no (e : ¬ a.getD i default = b.getD i default) : ¬ a = b := fun h => e (by rw [h])
end
theorem len_no {α : Type} {a b : List α} (h : ¬ a.length = b.length) : ¬ a = b := fun e => h (by rw [e])
theorem sp_Equal_plate (a b : List Plate) (h1 : a.length ≤ 4294967296) : Spec Tryz.prog 146 [encStreet a, encStreet b] [] (bV (decide (a = b))) [] := by
  refine spec_body Tryz.func146 rfl (fun E hE => ?_); simp only [go_sem, Tryz.ntmps146]
  repeat' (first | (with_reducible (show runOps ..); first | (refine Qr rfl ?_; try intro K' hK; try simp only [go_sem, *])) | (with_reducible (show Hold ..); first | refine Qh rfl ?_ | refine s_draw rfl Tryz.mixed (by kernel_rfl) ?_ | (refine s_cond rfl ⟨_, rfl, fun hb => ?_, fun hb => ?_⟩ <;> (have hc := hb; try simp only [go_sem] at hc)) | refine s_ret rfl ?_) | ((with_reducible refine Qb ?_ ?_); focus kernel_rfl) | ((with_reducible refine And.intro ?_ ?_); focus omega) | (refine contA_of hK ?_; clear hK K'; simp only [go_sem, *]) | (simp only [thenA, inBlockA, go_sem, *]))
  · (refine ⟨[_], [], [], ⟨rfl, trivial⟩, ?_⟩; simp only [go_sem, *])
    simp [len_no (a := a) (b := b) (by assumption)]
  · have hlb : a.length = b.length := by assumption
    refine s_loop rfl (fun zn zN zenv zAs => ∃ (i : Nat), zn = (b.length) - i ∧ i ≤ (b.length) ∧ (a.take i = b.take i) ∧ zN = 26 ∧ zenv = [(13, iV i), (12, iV b.length), (0, encStreet a), (1, encStreet b)] ∧ zAs = []) (b.length) ⟨[], [], _, _, _, (by (simp only [Weak, go_sem, List.map_append, List.map_set, *] <;> (try simp (disch := omega) only [wrap_succ]) <;> (try simp) <;> (try omega))), 0, (by simp), (by simp), (by simp), rfl, rfl, rfl⟩ ?_; rintro _ _ _ _ ⟨i, rfl, hi, hP, rfl, rfl, rfl⟩
    repeat' (first | (with_reducible (show runOps ..); first | (refine Qr rfl ?_; try intro K' hK; try simp only [go_sem, *])) | (with_reducible (show Hold ..); first | refine Qh rfl ?_ | refine s_draw rfl Tryz.mixed (by kernel_rfl) ?_ | (refine s_cond rfl ⟨_, rfl, fun hb => ?_, fun hb => ?_⟩ <;> (have hc := hb; try simp only [go_sem] at hc)) | refine s_ret rfl ?_) | ((with_reducible refine Qb ?_ ?_); focus kernel_rfl) | ((with_reducible refine And.intro ?_ ?_); focus omega) | (refine contA_of hK ?_; clear hK K'; simp only [go_sem, *]) | (simp only [thenA, inBlockA, go_sem, *]))
    · (refine ⟨[_], [], [], ⟨rfl, trivial⟩, ?_⟩; simp only [go_sem, *])
      simp [tk_no (a := a) (b := b) (i := i) (by assumption)]
    · refine ⟨_, (by omega), [], [], _, _, _, (by (simp only [Weak, go_sem, List.map_append, List.map_set, *] <;> (try simp (disch := omega) only [wrap_succ]) <;> (try simp) <;> (try omega))), i + 1, rfl, (by omega), (by exact tk_next (by omega) (by omega) hP (by assumption)), rfl, rfl, rfl⟩
    · (refine ⟨[_], [], [], ⟨rfl, trivial⟩, ?_⟩; simp only [go_sem, *])
      simp [tk_end (by omega) hlb hP]
theorem sp_EqualFunc (a b : Plan) (h1 : a.length ≤ 4294967296) (hrl : ∀ l, l ∈ a → l.length ≤ 4294967296) : Spec Tryz.prog 145 [.list (a.map encStreet), .list (b.map encStreet), fnV 146] [] (bV (decide (a = b))) [] := by
  have hca : callable Tryz.prog 146 = true := by kernel_rfl
  refine spec_body Tryz.func145 rfl (fun E hE => ?_); simp only [go_sem, Tryz.ntmps145]
  repeat' (first | (with_reducible (show runOps ..); first | (refine Qr rfl ?_; try intro K' hK; try simp only [go_sem, *])) | (with_reducible (show Hold ..); first | refine Qh rfl ?_ | (refine s_cond rfl ⟨_, rfl, fun hb => ?_, fun hb => ?_⟩ <;> (have hc := hb; try simp only [go_sem] at hc)) | refine s_ret rfl ?_) | ((with_reducible refine Qb ?_ ?_); focus kernel_rfl) | ((with_reducible refine And.intro ?_ ?_); focus omega) | (refine contA_of hK ?_; clear hK K'; simp only [go_sem, *]) | (simp only [thenA, inBlockA, go_sem, *]))
  · (refine ⟨[_], [], [], ⟨rfl, trivial⟩, ?_⟩; simp only [go_sem, *])
    simp [len_no (a := a) (b := b) (by assumption)]
  · have hlb : a.length = b.length := by assumption
    refine s_loop rfl (fun zn zN zenv zAs => ∃ (i : Nat), zn = (b.length) - i ∧ i ≤ (b.length) ∧ (a.take i = b.take i) ∧ zN = 32 ∧ zenv = [(17, iV i), (16, iV b.length), (15, .list (a.map encStreet)), (1, .list (b.map encStreet)), (2, fnV 146)] ∧ zAs = []) (b.length) ⟨[], [], _, _, _, (by (simp only [Weak, go_sem, List.map_append, List.map_set, *] <;> (try simp (disch := omega) only [wrap_succ]) <;> (try simp) <;> (try omega))), 0, (by simp), (by simp), (by simp), rfl, rfl, rfl⟩ ?_; rintro _ _ _ _ ⟨i, rfl, hi, hP, rfl, rfl, rfl⟩
    repeat' (first | (with_reducible (show runOps ..); first | (refine Qr rfl ?_; try intro K' hK; try simp only [go_sem, *])) | (with_reducible (show Hold ..); first | refine Qh rfl ?_ | (refine s_cond rfl ⟨_, rfl, fun hb => ?_, fun hb => ?_⟩ <;> (have hc := hb; try simp only [go_sem] at hc)) | refine s_ret rfl ?_) | (with_reducible (show callA ..); first | (refine call_s (sp_Equal_plate (List.getD a i default) (List.getD b i default) (hrl _ (getD_mem (by omega)))) ?_ ?_; (focus (simp only [go_sem, *]; done)); simp only [go_sem, *])) | ((with_reducible refine Qb ?_ ?_); focus kernel_rfl) | ((with_reducible refine And.intro ?_ ?_); focus omega) | (refine contA_of hK ?_; clear hK K'; simp only [go_sem, *]) | (simp only [thenA, inBlockA, go_sem, *]))
    · (refine ⟨[_], [], [], ⟨rfl, trivial⟩, ?_⟩; simp only [go_sem, *])
      simp [tk_no (a := a) (b := b) (i := i) (by assumption)]
    · refine ⟨_, (by omega), [], [], _, _, _, (by (simp only [Weak, go_sem, List.map_append, List.map_set, *] <;> (try simp (disch := omega) only [wrap_succ]) <;> (try simp) <;> (try omega))), i + 1, rfl, (by omega), (by exact tk_next (by omega) (by omega) hP (by assumption)), rfl, rfl, rfl⟩
    · (refine ⟨[_], [], [], ⟨rfl, trivial⟩, ?_⟩; simp only [go_sem, *])
      simp [tk_end (by omega) hlb hP]
theorem sp_same (a b : Plan) (h1 : a.length ≤ 4294967296) (hrl : ∀ l, l ∈ a → l.length ≤ 4294967296) : Spec Tryz.prog 111 [encPlan a, encPlan b] [] (bV (decide (a = b))) [] := by
  refine spec_body Tryz.func111 rfl (fun E hE => ?_); simp only [go_sem, Tryz.ntmps111]
  repeat' (first | (with_reducible (show runOps ..); first | (refine Qr rfl ?_; try intro K' hK; try simp only [go_sem, *])) | (with_reducible (show Hold ..); first | refine Qh rfl ?_ | (refine s_cond rfl ⟨_, rfl, fun hb => ?_, fun hb => ?_⟩ <;> (have hc := hb; try simp only [go_sem] at hc)) | refine s_ret rfl ?_) | (with_reducible (show callA ..); first | (refine call_s (sp_EqualFunc a b h1 hrl) ?_ ?_; (focus (simp only [go_sem, *]; done)); simp only [go_sem, *])) | ((with_reducible refine Qb ?_ ?_); focus kernel_rfl) | ((with_reducible refine And.intro ?_ ?_); focus omega) | (refine contA_of hK ?_; clear hK K'; simp only [go_sem, *]) | (simp only [thenA, inBlockA, go_sem, *]))
  all_goals (refine ⟨[_], [], [], ⟨rfl, trivial⟩, ?_⟩; simp only [go_sem, *])
end Go.Abs

namespace Go.Abs
open Go Go.Proofs
set_option maxRecDepth 10000
def guessAt (kind : Int) (p : Plan) (s : Nat) : List Change :=
  if kind = 4 then ((List.range p.length).filter (fun o => decide (o ≠ s))).map fun o => ⟨4, s, (o : Nat), zeroPlate, zeroPlate⟩
  else if kind = 5 ∨ kind = 6 then (p.getD s default).map fun x => ⟨kind, s, 0, x, zeroPlate⟩
  else [⟨kind, s, 0, zeroPlate, zeroPlate⟩]
def guessFrom (kind : Int) (p : Plan) (s : Nat) : List Change := (List.range' s (p.length - s)).flatMap (guessAt kind p)
def guessK : Nat → Plan → List Change
  | 0, _ => []
  | m + 1, p => guessFrom (6 - (m : Nat)) p 0 ++ guessK m p
def guessL (p : Plan) : List Change := guessK 6 p
theorem guessFrom_step {kind : Int} {p : Plan} {s : Nat} (h : s < p.length) : guessFrom kind p s = guessAt kind p s ++ guessFrom kind p (s + 1) := by
  unfold guessFrom
  rw [show p.length - s = (p.length - (s + 1)) + 1 by omega, List.range'_succ, List.flatMap_cons]
theorem guessFrom_end {kind : Int} {p : Plan} {s : Nat} (h : p.length ≤ s) : guessFrom kind p s = [] := by
  unfold guessFrom
  rw [show p.length - s = 0 by omega]; rfl
theorem guessAt_len {kind : Int} {p : Plan} (v : Valid p) (s : Nat) : (guessAt kind p s).length ≤ 8 := by
  unfold guessAt
  have := v.len
  have h := (v.row s).len
  unfold rowAt at h
  split
  · simp only [List.length_map]
    have := List.length_filter_le (fun o => decide (o ≠ s)) (List.range p.length)
    simp at this ⊢; omega
  · split
    · simpa using h
    · simp
theorem guessFrom_len {kind : Int} {p : Plan} (v : Valid p) (s : Nat) : (guessFrom kind p s).length ≤ 24 := by
  have key : ∀ n s, ((List.range' s n).flatMap (guessAt kind p)).length ≤ n * 8 := by
    intro n
    induction n with
    | zero => intro s; simp
    | succ n ih => intro s; have := ih (s + 1); have := guessAt_len (kind := kind) v s; simp only [List.range'_succ, List.flatMap_cons, List.length_append]; omega
  have := key (p.length - s) s
  have := v.len
  unfold guessFrom; omega
theorem guessK_len {p : Plan} (v : Valid p) : ∀ m, (guessK m p).length ≤ m * 24
  | 0 => by simp [guessK]
  | m + 1 => by
    have := guessK_len v m
    have := guessFrom_len (kind := 6 - (m : Nat)) v 0
    simp only [guessK, List.length_append]; omega
def joinFrom (p : Plan) (s o : Nat) : List Change := ((List.range' o (p.length - o)).filter (fun o => decide (o ≠ s))).map fun o => ⟨4, s, (o : Nat), zeroPlate, zeroPlate⟩
theorem guessAt_join {p : Plan} {s : Nat} : guessAt 4 p s = joinFrom p s 0 := by simp [guessAt, joinFrom, List.range_eq_range']
theorem joinFrom_in {p : Plan} {s o : Nat} (h : o < p.length) (e : o ≠ s) : joinFrom p s o = ⟨4, s, o, zeroPlate, zeroPlate⟩ :: joinFrom p s (o + 1) := by
  unfold joinFrom
  rw [show p.length - o = (p.length - (o + 1)) + 1 by omega, List.range'_succ, List.filter_cons, if_pos (by simpa using e), List.map_cons]
theorem joinFrom_out {p : Plan} {s o : Nat} (h : o < p.length) (e : o = s) : joinFrom p s o = joinFrom p s (o + 1) := by
  unfold joinFrom
  rw [show p.length - o = (p.length - (o + 1)) + 1 by omega, List.range'_succ, List.filter_cons, if_neg (by simpa using e)]
theorem joinFrom_end {p : Plan} {s o : Nat} (h : p.length ≤ o) : joinFrom p s o = [] := by
  unfold joinFrom
  rw [show p.length - o = 0 by omega]; rfl
theorem guessAt_each {kind : Int} {p : Plan} {s : Nat} (h4 : ¬ kind = 4) (h : kind = 5 ∨ kind = 6) : guessAt kind p s = (p.getD s default).map fun x => ⟨kind, s, 0, x, zeroPlate⟩ := by
  unfold guessAt; rw [if_neg h4, if_pos h]
theorem guessAt_else {kind : Int} {p : Plan} {s : Nat} (h4 : ¬ kind = 4) (h : ¬ (kind = 5 ∨ kind = 6)) : guessAt kind p s = [⟨kind, s, 0, zeroPlate, zeroPlate⟩] := by
  unfold guessAt; rw [if_neg h4, if_neg h]
theorem sp_guesses (p : Plan) (v : Valid p) : Spec Tryz.prog 131 [encPlan p] [] (.list ((guessL p).map Change.enc)) [] := by
  have hp3 := v.len
  have hgl := guessK_len v 6
  refine spec_body Tryz.func131 rfl (fun E hE => ?_); simp only [go_sem, Tryz.ntmps131]
  repeat' (first | (with_reducible (show runOps ..); first | (refine Qr rfl ?_; try intro K' hK; try simp only [go_sem, *])) | (with_reducible (show Hold ..); first | refine Qh rfl ?_ | (refine s_cond rfl ⟨_, rfl, fun hb => ?_, fun hb => ?_⟩ <;> (have hc := hb; try simp only [go_sem] at hc)) | refine s_ret rfl ?_) | ((with_reducible refine Qb ?_ ?_); focus kernel_rfl) | ((with_reducible refine And.intro ?_ ?_); focus omega) | (refine contA_of hK ?_; clear hK K'; simp only [go_sem, *]) | (simp only [thenA, inBlockA, go_sem, *]))
  refine s_loop rfl (fun zn zN zenv zAs => ∃ (m : Nat) (acc : List Change), zn = (6) - m ∧ m ≤ (6) ∧ (acc ++ guessK (6 - m) p = guessL p) ∧ zN = 67 ∧ zenv = [(4, iV ((m : Int) + 1)), (3, .own 1 7 0 acc.length), (1, .ptr 0 0)] ∧ zAs = [pBox p, .row 7 (acc.map Change.enc)]) (6) ⟨[some 0, none], [], _, _, _, (by (simp only [Weak, go_sem, List.map_append, List.map_set, *] <;> (try simp (disch := omega) only [wrap_succ]) <;> (try simp) <;> (try omega))), 0, [], (by simp), (by simp), (by rfl), rfl, rfl, rfl⟩ ?_; rintro _ _ _ _ ⟨m, acc, rfl, hm, hP, rfl, rfl, rfl⟩
  have hw : m < 6 → IntKind.i64.wrap ((m : Int) + 1 + 1) = (((m + 1 : Nat) : Int) + 1) := fun h => by rw [wrap_i64 (by omega) (by omega)]; omega
  have hm6 : ((m : Int) + 1 ≤ 6) = (m < 6) := by simp only [eq_iff_iff]; omega
  repeat' (first | (with_reducible (show runOps ..); first | (refine Qr rfl ?_; try intro K' hK; try simp only [go_sem, *])) | (with_reducible (show Hold ..); first | refine Qh rfl ?_ | (refine s_cond rfl ⟨_, rfl, fun hb => ?_, fun hb => ?_⟩ <;> (have hc := hb; try simp only [go_sem] at hc)) | refine s_ret rfl ?_) | ((with_reducible refine Qb ?_ ?_); focus kernel_rfl) | ((with_reducible refine And.intro ?_ ?_); focus omega) | (refine contA_of hK ?_; clear hK K'; simp only [go_sem, *]) | (simp only [thenA, inBlockA, go_sem, *]))
  · have hm : m < 6 := by assumption
    obtain ⟨kk, hkk⟩ : ∃ kk : Int, kk = (m : Int) + 1 := ⟨_, rfl⟩
    have hstep : guessK (6 - m) p = guessFrom kk p 0 ++ guessK (6 - (m + 1)) p := by
      rw [show 6 - m = (6 - (m + 1)) + 1 by omega, guessK, hkk]
      congr 2
      omega
    rw [hstep] at hP
    have hw2 : IntKind.i64.wrap (kk + 1) = ((m + 1 : Nat) : Int) + 1 := by rw [hkk, hw hm]
    clear hw
    rw [← hkk] at *
    clear hstep
    refine s_loop rfl (fun zn zN zenv zAs => ∃ (s : Nat) (acc : List Change), zn = (p.length) - s ∧ s ≤ (p.length) ∧ (acc ++ (guessFrom kk p s ++ guessK (6 - (m + 1)) p) = guessL p) ∧ zN = 67 ∧ zenv = [(17, iV s), (16, iV p.length), (15, .list (p.map encStreet)), (4, iV kk), (3, .own 1 7 0 acc.length), (1, .ptr 0 0)] ∧ zAs = [pBox p, .row 7 (acc.map Change.enc)]) (p.length) ⟨[some 0, some 1], [], _, _, _, (by (simp only [Weak, go_sem, List.map_append, List.map_set, *] <;> (try simp (disch := omega) only [wrap_succ]) <;> (try simp) <;> (try omega))), 0, acc, (by simp), (by simp), (by exact hP), rfl, rfl, rfl⟩ ?_; rintro _ _ _ _ ⟨s, acc, rfl, hs, hQ, rfl, rfl, rfl⟩
    clear hP
    have hqle := congrArg List.length hQ
    simp only [List.length_append] at hqle
    unfold guessL at hqle
    by_cases hs : s < p.length
    · rw [guessFrom_step hs] at hQ
      have hrow : (p.getD s default).length ≤ 8 := (v.rows _ (getD_mem hs)).len
      by_cases k4 : kk = 4
      · subst k4
        rw [guessAt_join] at hQ
        repeat' (first | (with_reducible (show runOps ..); first | (refine Qr rfl ?_; try intro K' hK; try simp only [go_sem, *])) | (with_reducible (show Hold ..); first | refine Qh rfl ?_ | (refine s_cond rfl ⟨_, rfl, fun hb => ?_, fun hb => ?_⟩ <;> (have hc := hb; try simp only [go_sem] at hc)) | refine s_ret rfl ?_) | ((with_reducible refine Qb ?_ ?_); focus kernel_rfl) | ((with_reducible refine And.intro ?_ ?_); focus omega) | (refine contA_of hK ?_; clear hK K'; simp only [go_sem, *]) | (simp only [thenA, inBlockA, go_sem, *]))
        refine s_loop rfl (fun zn zN zenv zAs => ∃ (o : Nat) (acc : List Change), zn = (p.length) - o ∧ o ≤ (p.length) ∧ (acc ++ (joinFrom p s o ++ guessFrom 4 p (s + 1)) ++ guessK (6 - (m + 1)) p = guessL p) ∧ zN = 67 ∧ zenv = [(34, iV o), (33, iV p.length), (5, iV s), (17, iV s), (16, iV p.length), (15, .list (p.map encStreet)), (4, iV 4), (3, .own 1 7 0 acc.length), (1, .ptr 0 0)] ∧ zAs = [pBox p, .row 7 (acc.map Change.enc)]) (p.length) ⟨[some 0, some 1], [], _, _, _, (by (simp only [Weak, go_sem, List.map_append, List.map_set, *] <;> (try simp (disch := omega) only [wrap_succ]) <;> (try simp) <;> (try omega))), 0, acc, (by simp), (by simp), (by simpa using hQ), rfl, rfl, rfl⟩ ?_; rintro _ _ _ _ ⟨o, acc, rfl, ho, hR, rfl, rfl, rfl⟩
        clear hQ hqle
        have hqle := congrArg List.length hR
        simp only [List.length_append] at hqle
        unfold guessL at hqle
        repeat' (first | (with_reducible (show runOps ..); first | (refine Qr rfl ?_; try intro K' hK; try simp only [go_sem, *])) | (with_reducible (show Hold ..); first | refine Qh rfl ?_ | (refine s_cond rfl ⟨_, rfl, fun hb => ?_, fun hb => ?_⟩ <;> (have hc := hb; try simp only [go_sem] at hc)) | refine s_ret rfl ?_) | ((with_reducible refine Qb ?_ ?_); focus kernel_rfl) | ((with_reducible refine And.intro ?_ ?_); focus omega) | (refine contA_of hK ?_; clear hK K'; simp only [go_sem, *]) | (simp only [thenA, inBlockA, go_sem, *]))
        · refine ⟨_, (by omega), [some 0, some 3], [], _, _, _, (by (simp only [Weak, go_sem, List.map_append, List.map_set, *] <;> (try simp (disch := omega) only [wrap_succ]) <;> (try simp) <;> (try omega))), o + 1, acc ++ [⟨4, s, o, zeroPlate, zeroPlate⟩], rfl, (by omega), (by rw [← hR, joinFrom_in (o := o) (by assumption) (by omega)]; simp), rfl, rfl, rfl⟩
        · refine ⟨_, (by omega), [some 0, some 1], [], _, _, _, (by (simp only [Weak, go_sem, List.map_append, List.map_set, *] <;> (try simp (disch := omega) only [wrap_succ]) <;> (try simp) <;> (try omega))), o + 1, acc, rfl, (by omega), (by rw [← hR, joinFrom_out (o := o) (by assumption) (by omega)]), rfl, rfl, rfl⟩
        · rw [joinFrom_end (by omega), List.nil_append] at hR
          refine ⟨_, (by omega), [some 0, some 1], [], _, _, _, (by (simp only [Weak, go_sem, List.map_append, List.map_set, *] <;> (try simp (disch := omega) only [wrap_succ]) <;> (try simp) <;> (try omega))), s + 1, acc, rfl, (by omega), (by simpa using hR), rfl, rfl, rfl⟩
      · by_cases k5 : kk = 5 ∨ kk = 6
        · rw [guessAt_each k4 k5] at hQ
          generalize hll : p.getD s default = l at *
          have hd : (kk == 4) = false := by simpa using k4
          rcases k5 with k5 | k5
          · have h5 : (kk == 5) = true := by simp [k5]
            clear k5
            repeat' (first | (with_reducible (show runOps ..); first | (refine Qr rfl ?_; try intro K' hK; try simp only [go_sem, *])) | (with_reducible (show Hold ..); first | refine Qh rfl ?_ | (refine s_cond rfl ⟨_, rfl, fun hb => ?_, fun hb => ?_⟩ <;> (have hc := hb; try simp only [go_sem] at hc)) | refine s_ret rfl ?_) | ((with_reducible refine Qb ?_ ?_); focus kernel_rfl) | ((with_reducible refine And.intro ?_ ?_); focus omega) | (refine contA_of hK ?_; clear hK K'; simp only [go_sem, *]) | (simp only [thenA, inBlockA, go_sem, *]))
            refine s_loop rfl (fun zn zN zenv zAs => ∃ (o : Nat) (acc : List Change), zn = (l.length) - o ∧ o ≤ (l.length) ∧ (acc ++ ((l.drop o).map (fun x => (⟨kk, s, 0, x, zeroPlate⟩ : Change)) ++ guessFrom kk p (s + 1)) ++ guessK (6 - (m + 1)) p = guessL p) ∧ zN = 67 ∧ zenv = [(53, iV o), (52, iV l.length), (51, encStreet l), (5, iV s), (17, iV s), (16, iV p.length), (15, .list (p.map encStreet)), (4, iV kk), (3, .own 1 7 0 acc.length), (1, .ptr 0 0)] ∧ zAs = [pBox p, .row 7 (acc.map Change.enc)]) (l.length) ⟨[some 0, some 1], [], _, _, _, (by (simp only [Weak, go_sem, List.map_append, List.map_set, *] <;> (try simp (disch := omega) only [wrap_succ]) <;> (try simp) <;> (try omega))), 0, acc, (by simp), (by simp), (by simpa using hQ), rfl, rfl, rfl⟩ ?_; rintro _ _ _ _ ⟨o, acc, rfl, ho, hR, rfl, rfl, rfl⟩
            clear hQ hqle
            have hqle := congrArg List.length hR
            simp only [List.length_append] at hqle
            unfold guessL at hqle
            repeat' (first | (with_reducible (show runOps ..); first | (refine Qr rfl ?_; try intro K' hK; try simp only [go_sem, *])) | (with_reducible (show Hold ..); first | refine Qh rfl ?_ | (refine s_cond rfl ⟨_, rfl, fun hb => ?_, fun hb => ?_⟩ <;> (have hc := hb; try simp only [go_sem] at hc)) | refine s_ret rfl ?_) | ((with_reducible refine Qb ?_ ?_); focus kernel_rfl) | ((with_reducible refine And.intro ?_ ?_); focus omega) | (refine contA_of hK ?_; clear hK K'; simp only [go_sem, *]) | (simp only [thenA, inBlockA, go_sem, *]))
            · have ed : l.drop o = l.getD o default :: l.drop (o + 1) := drop_cons (by assumption)
              refine ⟨_, (by omega), [some 0, some 4], [], _, _, _, (by (simp only [Weak, go_sem, List.map_append, List.map_set, *] <;> (try simp (disch := omega) only [wrap_succ]) <;> (try simp) <;> (try omega))), o + 1, acc ++ [⟨kk, s, 0, l.getD o default, zeroPlate⟩], rfl, (by omega), (by rw [← hR, ed]; simp), rfl, rfl, rfl⟩
            · rw [drop_end (by omega), List.map_nil, List.nil_append] at hR
              refine ⟨_, (by omega), [some 0, some 1], [], _, _, _, (by (simp only [Weak, go_sem, List.map_append, List.map_set, *] <;> (try simp (disch := omega) only [wrap_succ]) <;> (try simp) <;> (try omega))), s + 1, acc, rfl, (by omega), (by simpa using hR), rfl, rfl, rfl⟩
          · have h5 : (kk == 5) = false := by simp [k5]
            have h6 : (kk == 6) = true := by simp [k5]
            clear k5
            repeat' (first | (with_reducible (show runOps ..); first | (refine Qr rfl ?_; try intro K' hK; try simp only [go_sem, *])) | (with_reducible (show Hold ..); first | refine Qh rfl ?_ | (refine s_cond rfl ⟨_, rfl, fun hb => ?_, fun hb => ?_⟩ <;> (have hc := hb; try simp only [go_sem] at hc)) | refine s_ret rfl ?_) | ((with_reducible refine Qb ?_ ?_); focus kernel_rfl) | ((with_reducible refine And.intro ?_ ?_); focus omega) | (refine contA_of hK ?_; clear hK K'; simp only [go_sem, *]) | (simp only [thenA, inBlockA, go_sem, *]))
            refine s_loop rfl (fun zn zN zenv zAs => ∃ (o : Nat) (acc : List Change), zn = (l.length) - o ∧ o ≤ (l.length) ∧ (acc ++ ((l.drop o).map (fun x => (⟨kk, s, 0, x, zeroPlate⟩ : Change)) ++ guessFrom kk p (s + 1)) ++ guessK (6 - (m + 1)) p = guessL p) ∧ zN = 67 ∧ zenv = [(53, iV o), (52, iV l.length), (51, encStreet l), (5, iV s), (17, iV s), (16, iV p.length), (15, .list (p.map encStreet)), (4, iV kk), (3, .own 1 7 0 acc.length), (1, .ptr 0 0)] ∧ zAs = [pBox p, .row 7 (acc.map Change.enc)]) (l.length) ⟨[some 0, some 1], [], _, _, _, (by (simp only [Weak, go_sem, List.map_append, List.map_set, *] <;> (try simp (disch := omega) only [wrap_succ]) <;> (try simp) <;> (try omega))), 0, acc, (by simp), (by simp), (by simpa using hQ), rfl, rfl, rfl⟩ ?_; rintro _ _ _ _ ⟨o, acc, rfl, ho, hR, rfl, rfl, rfl⟩
            clear hQ hqle
            have hqle := congrArg List.length hR
            simp only [List.length_append] at hqle
            unfold guessL at hqle
            repeat' (first | (with_reducible (show runOps ..); first | (refine Qr rfl ?_; try intro K' hK; try simp only [go_sem, *])) | (with_reducible (show Hold ..); first | refine Qh rfl ?_ | (refine s_cond rfl ⟨_, rfl, fun hb => ?_, fun hb => ?_⟩ <;> (have hc := hb; try simp only [go_sem] at hc)) | refine s_ret rfl ?_) | ((with_reducible refine Qb ?_ ?_); focus kernel_rfl) | ((with_reducible refine And.intro ?_ ?_); focus omega) | (refine contA_of hK ?_; clear hK K'; simp only [go_sem, *]) | (simp only [thenA, inBlockA, go_sem, *]))
            · have ed : l.drop o = l.getD o default :: l.drop (o + 1) := drop_cons (by assumption)
              refine ⟨_, (by omega), [some 0, some 4], [], _, _, _, (by (simp only [Weak, go_sem, List.map_append, List.map_set, *] <;> (try simp (disch := omega) only [wrap_succ]) <;> (try simp) <;> (try omega))), o + 1, acc ++ [⟨kk, s, 0, l.getD o default, zeroPlate⟩], rfl, (by omega), (by rw [← hR, ed]; simp), rfl, rfl, rfl⟩
            · rw [drop_end (by omega), List.map_nil, List.nil_append] at hR
              refine ⟨_, (by omega), [some 0, some 1], [], _, _, _, (by (simp only [Weak, go_sem, List.map_append, List.map_set, *] <;> (try simp (disch := omega) only [wrap_succ]) <;> (try simp) <;> (try omega))), s + 1, acc, rfl, (by omega), (by simpa using hR), rfl, rfl, rfl⟩
        · rw [guessAt_else k4 k5] at hQ
          have h4 : (kk == 4) = false := by simpa using k4
          have h5 : (kk == 5) = false := by simp only [not_or] at k5; simpa using k5.1
          have h6 : (kk == 6) = false := by simp only [not_or] at k5; simpa using k5.2
          repeat' (first | (with_reducible (show runOps ..); first | (refine Qr rfl ?_; try intro K' hK; try simp only [go_sem, *])) | (with_reducible (show Hold ..); first | refine Qh rfl ?_ | (refine s_cond rfl ⟨_, rfl, fun hb => ?_, fun hb => ?_⟩ <;> (have hc := hb; try simp only [go_sem] at hc)) | refine s_ret rfl ?_) | ((with_reducible refine Qb ?_ ?_); focus kernel_rfl) | ((with_reducible refine And.intro ?_ ?_); focus omega) | (refine contA_of hK ?_; clear hK K'; simp only [go_sem, *]) | (simp only [thenA, inBlockA, go_sem, *]))
          refine ⟨_, (by omega), [some 0, some 3], [], _, _, _, (by (simp only [Weak, go_sem, List.map_append, List.map_set, *] <;> (try simp (disch := omega) only [wrap_succ]) <;> (try simp) <;> (try omega))), s + 1, acc ++ [⟨kk, s, 0, zeroPlate, zeroPlate⟩], rfl, (by omega), (by simpa using hQ), rfl, rfl, rfl⟩
    · repeat' (first | (with_reducible (show runOps ..); first | (refine Qr rfl ?_; try intro K' hK; try simp only [go_sem, *])) | (with_reducible (show Hold ..); first | refine Qh rfl ?_ | (refine s_cond rfl ⟨_, rfl, fun hb => ?_, fun hb => ?_⟩ <;> (have hc := hb; try simp only [go_sem] at hc)) | refine s_ret rfl ?_) | ((with_reducible refine Qb ?_ ?_); focus kernel_rfl) | ((with_reducible refine And.intro ?_ ?_); focus omega) | (refine contA_of hK ?_; clear hK K'; simp only [go_sem, *]) | (simp only [thenA, inBlockA, go_sem, *]))
      rw [guessFrom_end (by omega), List.nil_append] at hQ
      refine ⟨_, (by omega), [some 0, some 1], [], _, _, _, (by (simp only [Weak, go_sem, List.map_append, List.map_set, *] <;> (try simp (disch := omega) only [wrap_succ]) <;> (try simp) <;> (try omega))), m + 1, acc, rfl, (by omega), (by exact hQ), rfl, rfl, rfl⟩
  · refine ⟨[_], [], [1], ⟨rfl, trivial⟩, ?_⟩
    have h6 : 6 - m = 0 := by omega
    rw [h6] at hP
    simp only [guessK, List.append_nil] at hP
    simp only [go_sem, hP, *]
    simp
end Go.Abs

namespace Go.Abs
open Go Go.Proofs
set_option maxRecDepth 10000
theorem filter_flatMap' {α β : Type} (f : α → List β) (p : β → Bool) : ∀ l : List α, (l.flatMap f).filter p = l.flatMap fun a => (f a).filter p
  | [] => rfl
  | a :: r => by simp only [List.flatMap_cons, List.filter_append, filter_flatMap' f p r]
theorem flatMap_congr' {α β : Type} {f g : α → List β} : ∀ {l : List α}, (∀ a, a ∈ l → f a = g a) → l.flatMap f = l.flatMap g
  | [], _ => rfl
  | a :: r, h => by
    have e1 := h a (by simp)
    have e2 := flatMap_congr' (l := r) (fun b hb => h b (by simp [hb]))
    rw [List.flatMap_cons, List.flatMap_cons, e1, e2]
theorem can_repeated {p : Plan} {s : Int} : can p ⟨4, s, s, zeroPlate, zeroPlate⟩ ≠ 0 := by
  unfold can
  simp only
  split
  · omega
  split
  · omega
  split
  · omega
  rw [if_pos (by simp)]; omega
theorem guessAt_filter (kind : Int) (p : Plan) (s : Nat) : (guessAt kind p s).filter (fun c => decide (can p c = 0)) = (changesAt kind p s).filter (fun c => decide (can p c = 0)) := by
  unfold guessAt changesAt
  split
  · rw [List.filter_map, List.filter_map, List.filter_filter]
    congr 1
    refine List.filter_congr (fun o _ => ?_)
    simp only [Function.comp]
    by_cases e : o = s
    · subst e
      have := @can_repeated p (o : Int)
      simp [this]
    · simp [e]
  · rfl
theorem guessL_eq (p : Plan) : guessL p = ([1, 2, 3, 4, 5, 6] : List Int).flatMap fun k => guessFrom k p 0 := by
  simp [guessL, guessK]
theorem changesOf_eq (p : Plan) : changesOf p = (guessL p).filter (fun c => decide (can p c = 0)) := by
  rw [guessL_eq, filter_flatMap']
  unfold changesOf
  refine flatMap_congr' (fun k _ => ?_)
  unfold guessFrom
  rw [filter_flatMap', Nat.sub_zero, ← List.range_eq_range']
  exact flatMap_congr' (fun s _ => (guessAt_filter k p s).symm)
theorem firstSome_in {α β : Type} {f : α → Option β} : ∀ {l : List α} {b : β}, firstSome f l = some b → ∃ a, a ∈ l ∧ f a = some b
  | [], _, h => by simp [firstSome] at h
  | a :: r, b, h => by
    rw [firstSome] at h
    cases e : f a with
    | some x => rw [e] at h; simp only [Option.some.injEq] at h; subst h; exact ⟨a, by simp, e⟩
    | none =>
      rw [e] at h
      obtain ⟨c, hc1, hc2⟩ := firstSome_in h
      exact ⟨c, by simp [hc1], hc2⟩
theorem guessN_len : ∀ {n : Nat} {p q : Plan} {l : List Change}, guessN n p q = some l → l.length ≤ n
  | 0, p, q, l, h => by
    unfold guessN at h
    split at h
    · simp at h; subst h; simp
    · simp at h
  | n + 1, p, q, l, h => by
    rw [guessN] at h
    obtain ⟨c, _, h2⟩ := firstSome_in h
    cases e : guessN n (afterOf p c) q with
    | none => rw [e] at h2; simp at h2
    | some r =>
      rw [e] at h2
      simp at h2
      subst h2
      have := guessN_len e
      simp; omega
def optL (o : Option (List Change)) : List Change := o.getD []
@[go_sem] theorem optL_some (l : List Change) : optL (some l) = l := rfl
@[go_sem] theorem optL_none : optL none = [] := rfl
theorem sp_path : ∀ (n : Nat), n ≤ 2 → ∀ (p q : Plan), Valid p → Spec Tryz.prog 96 [encPlan p, encPlan q, iV n] [] (.tup [.list ((optL (guessN n p q)).map Change.enc), bV (guessN n p q).isSome]) []
  | 0, _, p, q, v => by
    have e1 : (guessN 0 p q).isSome = decide (p = q) := by unfold guessN; split <;> simp [*]
    have e2 : optL (guessN 0 p q) = [] := by unfold guessN; split <;> rfl
    refine spec_body Tryz.func96 rfl (fun E hE => ?_); simp only [go_sem, Tryz.ntmps96]
    repeat' (first | (with_reducible (show runOps ..); first | (refine Qr rfl ?_; try intro K' hK; try simp only [go_sem, *])) | (with_reducible (show Hold ..); first | refine Qh rfl ?_ | refine s_draw rfl Tryz.mixed (by kernel_rfl) ?_ | (refine s_cond rfl ⟨_, rfl, fun hb => ?_, fun hb => ?_⟩ <;> (have hc := hb; try simp only [go_sem] at hc)) | refine s_ret rfl ?_) | (with_reducible (show callA ..); first | (refine call_s (sp_same p q (by have := v.len; omega) (fun l hl => by have := (v.rows l hl).len; omega)) ?_ ?_; (focus (simp only [go_sem, *]; done)); simp only [go_sem, *])) | ((with_reducible refine Qb ?_ ?_); focus kernel_rfl) | ((with_reducible refine And.intro ?_ ?_); focus omega) | (refine contA_of hK ?_; clear hK K'; simp only [go_sem, *]) | (simp only [thenA, inBlockA, go_sem, *]))
    (refine ⟨[_, _], [], [], ⟨rfl, rfl, trivial⟩, ?_⟩; simp only [go_sem, *])
  | n + 1, hn, p, q, v => by
    have IH := sp_path n (by omega)
    have hw : IntKind.i64.wrap (((n + 1 : Nat) : Int) - 1) = (n : Int) := by rw [wrap_i64 (by omega) (by omega)]; omega
    have hn0 : (((n + 1 : Nat) : Int) == 0) = false := by simp; omega
    have hgl := guessK_len v 6
    have hglL : (guessL p).length ≤ 144 := hgl
    have hG : guessN (n + 1) p q = firstSome (fun c => (guessN n (afterOf p c) q).map (c :: ·)) ((guessL p).filter (fun c => decide (can p c = 0))) := by
      rw [guessN, changesOf_eq]
    obtain ⟨G, hGe⟩ : ∃ G, G = guessN (n + 1) p q := ⟨_, rfl⟩
    rw [← hGe] at hG ⊢
    clear hGe
    have hG0 : firstSome (fun c => (guessN n (afterOf p c) q).map (c :: ·)) (((guessL p).drop 0).filter (fun c => decide (can p c = 0))) = G := hG.symm
    clear hG
    refine spec_body Tryz.func96 rfl (fun E hE => ?_); simp only [go_sem, Tryz.ntmps96]
    repeat' (first | (with_reducible (show runOps ..); first | (refine Qr rfl ?_; try intro K' hK; try simp only [go_sem, *])) | (with_reducible (show Hold ..); first | refine Qh rfl ?_ | refine s_draw rfl Tryz.mixed (by kernel_rfl) ?_ | (refine s_cond rfl ⟨_, rfl, fun hb => ?_, fun hb => ?_⟩ <;> (have hc := hb; try simp only [go_sem] at hc)) | refine s_ret rfl ?_) | (with_reducible (show callA ..); first | (refine call_s (sp_guesses p v) ?_ ?_; (focus (simp only [go_sem, *]; done)); simp only [go_sem, *])) | ((with_reducible refine Qb ?_ ?_); focus kernel_rfl) | ((with_reducible refine And.intro ?_ ?_); focus omega) | (refine contA_of hK ?_; clear hK K'; simp only [go_sem, *]) | (simp only [thenA, inBlockA, go_sem, *]))
    refine s_loop rfl (fun zn zN zenv zAs => ∃ (i : Nat), zn = ((guessL p).length) - i ∧ i ≤ ((guessL p).length) ∧ (firstSome (fun c => (guessN n (afterOf p c) q).map (c :: ·)) (((guessL p).drop i).filter (fun c => decide (can p c = 0))) = G) ∧ zN = 52 ∧ zenv = [(22, iV i), (21, iV (guessL p).length), (20, .list ((guessL p).map Change.enc)), (2, iV (n + 1 : Nat)), (3, .ptr 0 0), (4, .ptr 1 0)] ∧ zAs = [pBox p, pBox q]) ((guessL p).length) ⟨[some 0, some 1], [], _, _, _, (by (simp only [Weak, go_sem, List.map_append, List.map_set, *] <;> (try simp (disch := omega) only [wrap_succ]) <;> (try simp) <;> (try omega))), 0, (by simp), (by simp), (by exact hG0), rfl, rfl, rfl⟩ ?_; rintro _ _ _ _ ⟨i, rfl, hi, hP, rfl, rfl, rfl⟩
    by_cases hi2 : i < (guessL p).length
    · obtain ⟨s1, s2⟩ := sp_effect_all p ((guessL p).getD i default) v
      rw [drop_cons hi2] at hP
      by_cases hcan : can p ((guessL p).getD i default) = 0
      · have s := s2 hcan
        have f := Fit.of_can hcan
        have sa := sp_after p _ v f
        have sr := IH (afterOf p ((guessL p).getD i default)) q (valid_after v f)
        rw [List.filter_cons, if_pos (by simpa using hcan)] at hP
        clear s1 s2 hcan IH
        repeat' (first | (with_reducible (show runOps ..); first | (refine Qr rfl ?_; try intro K' hK; try simp only [go_sem, *])) | (with_reducible (show Hold ..); first | refine Qh rfl ?_ | refine s_draw rfl Tryz.mixed (by kernel_rfl) ?_ | (refine s_cond rfl ⟨_, rfl, fun hb => ?_, fun hb => ?_⟩ <;> (have hc := hb; try simp only [go_sem] at hc)) | refine s_ret rfl ?_) | (with_reducible (show callA ..); first | (refine call_n (s) ?_ ?_ ?_ ?_; (focus (simp only [go_sem, *]; done)); (focus (first | (simp; done) | (simp [go_sem]; done))); (focus (first | (simp; done) | (simp [go_sem]; done))); simp only [go_sem, *])) | ((with_reducible refine Qb ?_ ?_); focus kernel_rfl) | ((with_reducible refine And.intro ?_ ?_); focus omega) | (refine contA_of hK ?_; clear hK K'; simp only [go_sem, *]) | (simp only [thenA, inBlockA, go_sem, *]))
        refine call_fz (gone := [3]) sa (by simp only [go_sem]) (by simp only [go_sem]) (by simp only [go_sem]) (by simp) (by simp) ?_
        simp only [go_sem, deads]
        cases hgn : guessN n (afterOf p ((guessL p).getD i default)) q with
        | none =>
          rw [hgn] at sr
          rw [firstSome, hgn] at hP
          simp only [Option.map_none] at hP
          repeat' (first | (with_reducible (show runOps ..); first | (refine Qr rfl ?_; try intro K' hK; try simp only [go_sem, *])) | (with_reducible (show Hold ..); first | refine Qh rfl ?_ | refine s_draw rfl Tryz.mixed (by kernel_rfl) ?_ | (refine s_cond rfl ⟨_, rfl, fun hb => ?_, fun hb => ?_⟩ <;> (have hc := hb; try simp only [go_sem] at hc)) | refine s_ret rfl ?_) | (with_reducible (show callA ..); first | (refine call_s (sr) ?_ ?_; (focus (simp only [go_sem, *]; done)); simp only [go_sem, *])) | ((with_reducible refine Qb ?_ ?_); focus kernel_rfl) | ((with_reducible refine And.intro ?_ ?_); focus omega) | (refine contA_of hK ?_; clear hK K'; simp only [go_sem, *]) | (simp only [thenA, inBlockA, go_sem, *]))
          all_goals first | contradiction | skip
          refine ⟨_, (by omega), [some 0, some 1], [], _, _, _, (by (simp only [Weak, go_sem, List.map_append, List.map_set, *] <;> (try simp (disch := omega) only [wrap_succ]) <;> (try simp) <;> (try omega))), i + 1, rfl, (by omega), (by exact hP), rfl, rfl, rfl⟩
        | some l =>
          rw [hgn] at sr
          rw [firstSome, hgn] at hP
          simp only [Option.map_some] at hP
          have hll := guessN_len hgn
          subst hP
          repeat' (first | (with_reducible (show runOps ..); first | (refine Qr rfl ?_; try intro K' hK; try simp only [go_sem, *])) | (with_reducible (show Hold ..); first | refine Qh rfl ?_ | refine s_draw rfl Tryz.mixed (by kernel_rfl) ?_ | (refine s_cond rfl ⟨_, rfl, fun hb => ?_, fun hb => ?_⟩ <;> (have hc := hb; try simp only [go_sem] at hc)) | refine s_ret rfl ?_) | (with_reducible (show callA ..); first | (refine call_s (sr) ?_ ?_; (focus (simp only [go_sem, *]; done)); simp only [go_sem, *])) | ((with_reducible refine Qb ?_ ?_); focus kernel_rfl) | ((with_reducible refine And.intro ?_ ?_); focus omega) | (refine contA_of hK ?_; clear hK K'; simp only [go_sem, *]) | (simp only [thenA, inBlockA, go_sem, *]))
          all_goals first | contradiction | skip
          refine ⟨fun y hy => ?_, fun y hy => ?_, by omega, Nat.le_trans (by omega) (by decide : 3 ≤ 9223372036854775807), ?_⟩
          · obtain ⟨c, _, rfl⟩ := List.mem_map.1 hy
            simp [Change.enc, go_sem]
          · obtain ⟨c, _, rfl⟩ := List.mem_map.1 hy
            simp [Change.enc, go_sem]
          · repeat' (first | (with_reducible (show runOps ..); first | (refine Qr rfl ?_; try intro K' hK; try simp only [go_sem, *])) | (with_reducible (show Hold ..); first | refine Qh rfl ?_ | refine s_draw rfl Tryz.mixed (by kernel_rfl) ?_ | (refine s_cond rfl ⟨_, rfl, fun hb => ?_, fun hb => ?_⟩ <;> (have hc := hb; try simp only [go_sem] at hc)) | refine s_ret rfl ?_) | ((with_reducible refine Qb ?_ ?_); focus kernel_rfl) | ((with_reducible refine And.intro ?_ ?_); focus omega) | (refine contA_of hK ?_; clear hK K'; simp only [go_sem, *]) | (simp only [thenA, inBlockA, go_sem, *]))
            refine ⟨[_, _], [], [5], ⟨rfl, rfl, trivial⟩, ?_⟩
            simp only [go_sem, *]
            simp [Nat.add_comm, Change.enc, List.take_of_length_le]
      · have s := s1 hcan
        rw [List.filter_cons, if_neg (by simpa using hcan)] at hP
        clear s1 s2 IH
        repeat' (first | (with_reducible (show runOps ..); first | (refine Qr rfl ?_; try intro K' hK; try simp only [go_sem, *])) | (with_reducible (show Hold ..); first | refine Qh rfl ?_ | refine s_draw rfl Tryz.mixed (by kernel_rfl) ?_ | (refine s_cond rfl ⟨_, rfl, fun hb => ?_, fun hb => ?_⟩ <;> (have hc := hb; try simp only [go_sem] at hc)) | refine s_ret rfl ?_) | (with_reducible (show callA ..); first | (refine call_s (s) ?_ ?_; (focus (simp only [go_sem, *]; done)); simp only [go_sem, *])) | ((with_reducible refine Qb ?_ ?_); focus kernel_rfl) | ((with_reducible refine And.intro ?_ ?_); focus omega) | (refine contA_of hK ?_; clear hK K'; simp only [go_sem, *]) | (simp only [thenA, inBlockA, go_sem, *]))
        all_goals first | contradiction | skip
        refine ⟨_, (by omega), [some 0, some 1], [], _, _, _, (by (simp only [Weak, go_sem, List.map_append, List.map_set, *] <;> (try simp (disch := omega) only [wrap_succ]) <;> (try simp) <;> (try omega))), i + 1, rfl, (by omega), (by exact hP), rfl, rfl, rfl⟩
    · rw [drop_end (by omega), List.filter_nil, firstSome] at hP
      subst hP
      repeat' (first | (with_reducible (show runOps ..); first | (refine Qr rfl ?_; try intro K' hK; try simp only [go_sem, *])) | (with_reducible (show Hold ..); first | refine Qh rfl ?_ | refine s_draw rfl Tryz.mixed (by kernel_rfl) ?_ | (refine s_cond rfl ⟨_, rfl, fun hb => ?_, fun hb => ?_⟩ <;> (have hc := hb; try simp only [go_sem] at hc)) | refine s_ret rfl ?_) | ((with_reducible refine Qb ?_ ?_); focus kernel_rfl) | ((with_reducible refine And.intro ?_ ?_); focus omega) | (refine contA_of hK ?_; clear hK K'; simp only [go_sem, *]) | (simp only [thenA, inBlockA, go_sem, *]))
      (refine ⟨[_, _], [], [], ⟨rfl, rfl, trivial⟩, ?_⟩; simp only [go_sem, *])
      all_goals simp
def guessErr (p q : Plan) : Int :=
  if check p = 0 then if check q = 0 then if p.length = q.length then if (guessOf p q).isSome then 0 else 11 else 11 else check q else check p
theorem sp_Guess_found (p q : Plan) (h1 : check p = 0) (h2 : check q = 0) (h3 : p.length = q.length) (G : Option (List Change)) (hG : firstSome (fun n => guessN n p q) ([0, 1, 2].drop 0) = G) :
    Spec Tryz.prog 31 [encPlan p, encPlan q] [] (.tup [.list ((optL G).map Change.enc), iV (if G.isSome = true then 0 else 11)]) [] := by
  have v := (check_zero p).1 h1
  have w := (check_zero q).1 h2
  have s1 := sp_Check p (by have := v.len; omega)
  have s2 := sp_Check q (by have := w.len; omega)
  have s3 := fun n hn => sp_path n hn p q v
  rw [h1] at s1
  rw [h2] at s2
  clear h1 h2 w
  refine spec_body Tryz.func31 rfl (fun E hE => ?_); simp only [go_sem, Tryz.ntmps31]
  repeat' (first | (with_reducible (show runOps ..); first | (refine Qr rfl ?_; try intro K' hK; try simp only [go_sem, *])) | (with_reducible (show Hold ..); first | refine Qh rfl ?_ | (refine s_cond rfl ⟨_, rfl, fun hb => ?_, fun hb => ?_⟩ <;> (have hc := hb; try simp only [go_sem] at hc)) | refine s_ret rfl ?_) | (with_reducible (show callA ..); first | ((first | refine call_s (s1) ?_ ?_ | refine call_s (s2) ?_ ?_); (focus (simp only [go_sem, *]; done)); simp only [go_sem, *])) | ((with_reducible refine Qb ?_ ?_); focus kernel_rfl) | ((with_reducible refine And.intro ?_ ?_); focus omega) | (refine contA_of hK ?_; clear hK K'; simp only [go_sem, *]) | (simp only [thenA, inBlockA, go_sem, *]))
  refine s_loop rfl (fun zn zN zenv zAs => ∃ (i : Nat), zn = (3) - i ∧ i ≤ (3) ∧ (firstSome (fun n => guessN n p q) ([0, 1, 2].drop i) = G) ∧ zN = 41 ∧ zenv = [(28, iV i), (2, .ptr 0 0), (3, .ptr 1 0)] ∧ zAs = [pBox p, pBox q]) (3) ⟨[some 0, some 1], [], _, _, _, (by (simp only [Weak, go_sem, List.map_append, List.map_set, *] <;> (try simp (disch := omega) only [wrap_succ]) <;> (try simp) <;> (try omega))), 0, (by simp), (by simp), (by exact hG), rfl, rfl, rfl⟩ ?_; rintro _ _ _ _ ⟨i, rfl, hi, hP, rfl, rfl, rfl⟩
  by_cases hi2 : i < 3
  · have s := s3 i (by omega)
    have hi3 : (i : Int) < 3 := by omega
    have hd : ([0, 1, 2] : List Nat).drop i = i :: [0, 1, 2].drop (i + 1) := by
      match i, hi2 with
      | 0, _ => rfl
      | 1, _ => rfl
      | 2, _ => rfl
    rw [hd, firstSome] at hP
    cases hgn : guessN i p q with
    | none =>
      rw [hgn] at s hP
      simp only at hP
      repeat' (first | (with_reducible (show runOps ..); first | (refine Qr rfl ?_; try intro K' hK; try simp only [go_sem, *])) | (with_reducible (show Hold ..); first | refine Qh rfl ?_ | (refine s_cond rfl ⟨_, rfl, fun hb => ?_, fun hb => ?_⟩ <;> (have hc := hb; try simp only [go_sem] at hc)) | refine s_ret rfl ?_) | (with_reducible (show callA ..); first | (refine call_s (s) ?_ ?_; (focus (simp only [go_sem, *]; done)); simp only [go_sem, *])) | ((with_reducible refine Qb ?_ ?_); focus kernel_rfl) | ((with_reducible refine And.intro ?_ ?_); focus omega) | (refine contA_of hK ?_; clear hK K'; simp only [go_sem, *]) | (simp only [thenA, inBlockA, go_sem, *]))
      all_goals first | contradiction | skip
      refine ⟨_, (by omega), [some 0, some 1], [], _, _, _, (by (simp only [Weak, go_sem, List.map_append, List.map_set, *] <;> (try simp (disch := omega) only [wrap_succ]) <;> (try simp) <;> (try omega))), i + 1, rfl, (by omega), (by exact hP), rfl, rfl, rfl⟩
    | some l =>
      rw [hgn] at s hP
      simp only at hP
      subst hP
      repeat' (first | (with_reducible (show runOps ..); first | (refine Qr rfl ?_; try intro K' hK; try simp only [go_sem, *])) | (with_reducible (show Hold ..); first | refine Qh rfl ?_ | (refine s_cond rfl ⟨_, rfl, fun hb => ?_, fun hb => ?_⟩ <;> (have hc := hb; try simp only [go_sem] at hc)) | refine s_ret rfl ?_) | (with_reducible (show callA ..); first | (refine call_s (s) ?_ ?_; (focus (simp only [go_sem, *]; done)); simp only [go_sem, *])) | ((with_reducible refine Qb ?_ ?_); focus kernel_rfl) | ((with_reducible refine And.intro ?_ ?_); focus omega) | (refine contA_of hK ?_; clear hK K'; simp only [go_sem, *]) | (simp only [thenA, inBlockA, go_sem, *]))
      all_goals first | contradiction | skip
      (refine ⟨[_, _], [], [], ⟨rfl, rfl, trivial⟩, ?_⟩; simp only [go_sem, *])
  · have hi3 : ¬ (i : Int) < 3 := by omega
    rw [show ([0, 1, 2] : List Nat).drop i = [] from List.drop_of_length_le (by simp; omega), firstSome] at hP
    subst hP
    repeat' (first | (with_reducible (show runOps ..); first | (refine Qr rfl ?_; try intro K' hK; try simp only [go_sem, *])) | (with_reducible (show Hold ..); first | refine Qh rfl ?_ | (refine s_cond rfl ⟨_, rfl, fun hb => ?_, fun hb => ?_⟩ <;> (have hc := hb; try simp only [go_sem] at hc)) | refine s_ret rfl ?_) | ((with_reducible refine Qb ?_ ?_); focus kernel_rfl) | ((with_reducible refine And.intro ?_ ?_); focus omega) | (refine contA_of hK ?_; clear hK K'; simp only [go_sem, *]) | (simp only [thenA, inBlockA, go_sem, *]))
    (refine ⟨[_, _], [], [], ⟨rfl, rfl, trivial⟩, ?_⟩; simp only [go_sem, *])
    all_goals simp
theorem sp_Guess (p q : Plan) (hp : p.length ≤ 4294967296) (hq : q.length ≤ 4294967296) :
    Spec Tryz.prog 31 [encPlan p, encPlan q] [] (.tup [.list ((optL (if guessErr p q = 0 then guessOf p q else none)).map Change.enc), iV (guessErr p q)]) [] := by
  by_cases h1 : check p = 0
  · by_cases h2 : check q = 0
    · by_cases h3 : p.length = q.length
      · have s := sp_Guess_found p q h1 h2 h3 (guessOf p q) rfl
        have e : guessErr p q = if (guessOf p q).isSome = true then 0 else 11 := by simp [guessErr, h1, h2, h3]
        rw [e]
        cases hg : guessOf p q with
        | none => rw [hg] at s; simpa using s
        | some l => rw [hg] at s; simpa using s
      · have e : guessErr p q = 11 := by simp [guessErr, h1, h2, h3]
        have s1 := sp_Check p hp
        have s2 := sp_Check q hq
        rw [h1] at s1
        rw [h2] at s2
        rw [e, if_neg (by decide)]
        have h4 : ((p.length : Int) == (q.length : Int)) = false := by simp; omega
        clear h1 h2
        refine spec_body Tryz.func31 rfl (fun E hE => ?_); simp only [go_sem, Tryz.ntmps31]
        repeat' (first | (with_reducible (show runOps ..); first | (refine Qr rfl ?_; try intro K' hK; try simp only [go_sem, *])) | (with_reducible (show Hold ..); first | refine Qh rfl ?_ | (refine s_cond rfl ⟨_, rfl, fun hb => ?_, fun hb => ?_⟩ <;> (have hc := hb; try simp only [go_sem] at hc)) | refine s_ret rfl ?_) | (with_reducible (show callA ..); first | ((first | refine call_s (s1) ?_ ?_ | refine call_s (s2) ?_ ?_); (focus (simp only [go_sem, *]; done)); simp only [go_sem, *])) | ((with_reducible refine Qb ?_ ?_); focus kernel_rfl) | ((with_reducible refine And.intro ?_ ?_); focus omega) | (refine contA_of hK ?_; clear hK K'; simp only [go_sem, *]) | (simp only [thenA, inBlockA, go_sem, *]))
        all_goals first | contradiction | skip
        all_goals (refine ⟨[_, _], [], [], ⟨rfl, rfl, trivial⟩, ?_⟩; simp only [go_sem, *])
    · have e : guessErr p q = check q := by simp [guessErr, h1, h2]
      have s1 := sp_Check p hp
      have s2 := sp_Check q hq
      rw [h1] at s1
      rw [e, if_neg h2]
      have h4 : (check q == 0) = false := by simpa using h2
      have h5 : (check q != 0) = true := by simpa using h2
      clear h1 e h2
      generalize check q = k at *
      refine spec_body Tryz.func31 rfl (fun E hE => ?_); simp only [go_sem, Tryz.ntmps31]
      repeat' (first | (with_reducible (show runOps ..); first | (refine Qr rfl ?_; try intro K' hK; try simp only [go_sem, *])) | (with_reducible (show Hold ..); first | refine Qh rfl ?_ | (refine s_cond rfl ⟨_, rfl, fun hb => ?_, fun hb => ?_⟩ <;> (have hc := hb; try simp only [go_sem] at hc)) | refine s_ret rfl ?_) | (with_reducible (show callA ..); first | ((first | refine call_s (s1) ?_ ?_ | refine call_s (s2) ?_ ?_); (focus (simp only [go_sem, *]; done)); simp only [go_sem, *])) | ((with_reducible refine Qb ?_ ?_); focus kernel_rfl) | ((with_reducible refine And.intro ?_ ?_); focus omega) | (refine contA_of hK ?_; clear hK K'; simp only [go_sem, *]) | (simp only [thenA, inBlockA, go_sem, *]))
      all_goals first | contradiction | skip
      all_goals (refine ⟨[_, _], [], [], ⟨rfl, rfl, trivial⟩, ?_⟩; simp only [go_sem, *])
  · have e : guessErr p q = check p := by simp [guessErr, h1]
    have s1 := sp_Check p hp
    rw [e, if_neg h1]
    have h4 : (check p == 0) = false := by simpa using h1
    have h5 : (check p != 0) = true := by simpa using h1
    clear e h1
    generalize check p = k at *
    refine spec_body Tryz.func31 rfl (fun E hE => ?_); simp only [go_sem, Tryz.ntmps31]
    repeat' (first | (with_reducible (show runOps ..); first | (refine Qr rfl ?_; try intro K' hK; try simp only [go_sem, *])) | (with_reducible (show Hold ..); first | refine Qh rfl ?_ | (refine s_cond rfl ⟨_, rfl, fun hb => ?_, fun hb => ?_⟩ <;> (have hc := hb; try simp only [go_sem] at hc)) | refine s_ret rfl ?_) | (with_reducible (show callA ..); first | (refine call_s (s1) ?_ ?_; (focus (simp only [go_sem, *]; done)); simp only [go_sem, *])) | ((with_reducible refine Qb ?_ ?_); focus kernel_rfl) | ((with_reducible refine And.intro ?_ ?_); focus omega) | (refine contA_of hK ?_; clear hK K'; simp only [go_sem, *]) | (simp only [thenA, inBlockA, go_sem, *]))
    all_goals first | contradiction | skip
    all_goals (refine ⟨[_, _], [], [], ⟨rfl, rfl, trivial⟩, ?_⟩; simp only [go_sem, *])
end Go.Abs

namespace Go.Abs
open Go Go.Proofs
set_option maxRecDepth 10000
theorem sp_Clone_int (l : List Int) (h1 : l.length ≤ 4294967296) : Spec Tryz.prog 164 [.list (l.map iV)] [] (.own 0 1 0 l.length) [.row 1 (l.map iV)] := by
  cases l with
  | nil =>
    refine spec_nil1 (fun a c => ?_)
    refine spec_body Tryz.func164 rfl (fun E hE => ?_); simp only [go_sem, Tryz.ntmps164]
    repeat' (first | (with_reducible (show runOps ..); first | (refine Qr rfl ?_; try intro K' hK; try simp only [go_sem, *])) | (with_reducible (show Hold ..); first | refine Qh rfl ?_ | (refine s_cond rfl ⟨_, rfl, fun hb => ?_, fun hb => ?_⟩ <;> (have hc := hb; try simp only [go_sem] at hc)) | refine s_ret rfl ?_) | ((with_reducible refine Qb ?_ ?_); focus kernel_rfl) | ((with_reducible refine And.intro ?_ ?_); focus omega) | (refine contA_of hK ?_; clear hK K'; simp only [go_sem, *]) | (simp only [thenA, inBlockA, go_sem, *]))
    · refine ⟨[_], [none], [], ⟨rfl, trivial⟩, ?_⟩
      simp only [go_sem, *]
      simp
    · refine ⟨[_], [some 1], [], ⟨rfl, trivial⟩, ?_⟩
      simp only [go_sem, *]
  | cons x r =>
    have h2 : r.length + 1 ≤ 4294967296 := by simpa using h1
    refine spec_body Tryz.func164 rfl (fun E hE => ?_); simp only [go_sem, Tryz.ntmps164]
    repeat' (first | (with_reducible (show runOps ..); first | (refine Qr rfl ?_; try intro K' hK; try simp only [go_sem, *])) | (with_reducible (show Hold ..); first | refine Qh rfl ?_ | (refine s_cond rfl ⟨_, rfl, fun hb => ?_, fun hb => ?_⟩ <;> (have hc := hb; try simp only [go_sem] at hc)) | refine s_ret rfl ?_) | ((with_reducible refine Qb ?_ ?_); focus kernel_rfl) | ((with_reducible refine And.intro ?_ ?_); focus omega) | (refine contA_of hK ?_; clear hK K'; simp only [go_sem, *]) | (simp only [thenA, inBlockA, go_sem, *]))
    all_goals first | contradiction | skip
    refine ⟨fun y hy => ?_, fun y hy => ?_, by omega, by omega, ?_⟩
    · obtain ⟨z, _, rfl⟩ := List.mem_map.1 hy
      simp [go_sem]
    · obtain ⟨z, _, rfl⟩ := List.mem_map.1 hy
      simp [go_sem]
    · repeat' (first | (with_reducible (show runOps ..); first | (refine Qr rfl ?_; try intro K' hK; try simp only [go_sem, *])) | (with_reducible (show Hold ..); first | refine Qh rfl ?_ | (refine s_cond rfl ⟨_, rfl, fun hb => ?_, fun hb => ?_⟩ <;> (have hc := hb; try simp only [go_sem] at hc)) | refine s_ret rfl ?_) | ((with_reducible refine Qb ?_ ?_); focus kernel_rfl) | ((with_reducible refine And.intro ?_ ?_); focus omega) | (refine contA_of hK ?_; clear hK K'; simp only [go_sem, *]) | (simp only [thenA, inBlockA, go_sem, *]))
      refine ⟨[_], [some 1], [], ⟨rfl, trivial⟩, ?_⟩
      simp only [go_sem, *]
theorem sp_Clone_plate (l : List Plate) (h1 : l.length ≤ 4294967296) : Spec Tryz.prog 147 [.list (l.map Plate.enc)] [] (.own 0 2 0 l.length) [.row 2 (l.map Plate.enc)] := by
  cases l with
  | nil =>
    refine spec_nil1 (fun a c => ?_)
    refine spec_body Tryz.func147 rfl (fun E hE => ?_); simp only [go_sem, Tryz.ntmps147]
    repeat' (first | (with_reducible (show runOps ..); first | (refine Qr rfl ?_; try intro K' hK; try simp only [go_sem, *])) | (with_reducible (show Hold ..); first | refine Qh rfl ?_ | (refine s_cond rfl ⟨_, rfl, fun hb => ?_, fun hb => ?_⟩ <;> (have hc := hb; try simp only [go_sem] at hc)) | refine s_ret rfl ?_) | ((with_reducible refine Qb ?_ ?_); focus kernel_rfl) | ((with_reducible refine And.intro ?_ ?_); focus omega) | (refine contA_of hK ?_; clear hK K'; simp only [go_sem, *]) | (simp only [thenA, inBlockA, go_sem, *]))
    · refine ⟨[_], [none], [], ⟨rfl, trivial⟩, ?_⟩
      simp only [go_sem, *]
      simp
    · refine ⟨[_], [some 1], [], ⟨rfl, trivial⟩, ?_⟩
      simp only [go_sem, *]
  | cons x r =>
    have h2 : r.length + 1 ≤ 4294967296 := by simpa using h1
    refine spec_body Tryz.func147 rfl (fun E hE => ?_); simp only [go_sem, Tryz.ntmps147]
    repeat' (first | (with_reducible (show runOps ..); first | (refine Qr rfl ?_; try intro K' hK; try simp only [go_sem, *])) | (with_reducible (show Hold ..); first | refine Qh rfl ?_ | (refine s_cond rfl ⟨_, rfl, fun hb => ?_, fun hb => ?_⟩ <;> (have hc := hb; try simp only [go_sem] at hc)) | refine s_ret rfl ?_) | ((with_reducible refine Qb ?_ ?_); focus kernel_rfl) | ((with_reducible refine And.intro ?_ ?_); focus omega) | (refine contA_of hK ?_; clear hK K'; simp only [go_sem, *]) | (simp only [thenA, inBlockA, go_sem, *]))
    all_goals first | contradiction | skip
    refine ⟨fun y hy => ?_, fun y hy => ?_, by omega, by omega, ?_⟩
    · obtain ⟨z, _, rfl⟩ := List.mem_map.1 hy
      simp [go_sem]
    · obtain ⟨z, _, rfl⟩ := List.mem_map.1 hy
      simp [go_sem]
    · repeat' (first | (with_reducible (show runOps ..); first | (refine Qr rfl ?_; try intro K' hK; try simp only [go_sem, *])) | (with_reducible (show Hold ..); first | refine Qh rfl ?_ | (refine s_cond rfl ⟨_, rfl, fun hb => ?_, fun hb => ?_⟩ <;> (have hc := hb; try simp only [go_sem] at hc)) | refine s_ret rfl ?_) | ((with_reducible refine Qb ?_ ?_); focus kernel_rfl) | ((with_reducible refine And.intro ?_ ?_); focus omega) | (refine contA_of hK ?_; clear hK K'; simp only [go_sem, *]) | (simp only [thenA, inBlockA, go_sem, *]))
      refine ⟨[_], [some 1], [], ⟨rfl, trivial⟩, ?_⟩
      simp only [go_sem, *]
theorem sp_Clone_place (l : List House) (h1 : l.length ≤ 4294967296) : Spec Tryz.prog 134 [.list (l.map House.enc)] [] (.own 0 3 0 l.length) [.row 3 (l.map House.enc)] := by
  cases l with
  | nil =>
    refine spec_nil1 (fun a c => ?_)
    refine spec_body Tryz.func134 rfl (fun E hE => ?_); simp only [go_sem, Tryz.ntmps134]
    repeat' (first | (with_reducible (show runOps ..); first | (refine Qr rfl ?_; try intro K' hK; try simp only [go_sem, *])) | (with_reducible (show Hold ..); first | refine Qh rfl ?_ | (refine s_cond rfl ⟨_, rfl, fun hb => ?_, fun hb => ?_⟩ <;> (have hc := hb; try simp only [go_sem] at hc)) | refine s_ret rfl ?_) | ((with_reducible refine Qb ?_ ?_); focus kernel_rfl) | ((with_reducible refine And.intro ?_ ?_); focus omega) | (refine contA_of hK ?_; clear hK K'; simp only [go_sem, *]) | (simp only [thenA, inBlockA, go_sem, *]))
    · refine ⟨[_], [none], [], ⟨rfl, trivial⟩, ?_⟩
      simp only [go_sem, *]
      simp
    · refine ⟨[_], [some 1], [], ⟨rfl, trivial⟩, ?_⟩
      simp only [go_sem, *]
  | cons x r =>
    have h2 : r.length + 1 ≤ 4294967296 := by simpa using h1
    refine spec_body Tryz.func134 rfl (fun E hE => ?_); simp only [go_sem, Tryz.ntmps134]
    repeat' (first | (with_reducible (show runOps ..); first | (refine Qr rfl ?_; try intro K' hK; try simp only [go_sem, *])) | (with_reducible (show Hold ..); first | refine Qh rfl ?_ | (refine s_cond rfl ⟨_, rfl, fun hb => ?_, fun hb => ?_⟩ <;> (have hc := hb; try simp only [go_sem] at hc)) | refine s_ret rfl ?_) | ((with_reducible refine Qb ?_ ?_); focus kernel_rfl) | ((with_reducible refine And.intro ?_ ?_); focus omega) | (refine contA_of hK ?_; clear hK K'; simp only [go_sem, *]) | (simp only [thenA, inBlockA, go_sem, *]))
    all_goals first | contradiction | skip
    refine ⟨fun y hy => ?_, fun y hy => ?_, by omega, by omega, ?_⟩
    · obtain ⟨z, _, rfl⟩ := List.mem_map.1 hy
      simp [go_sem]
    · obtain ⟨z, _, rfl⟩ := List.mem_map.1 hy
      simp [go_sem]
    · repeat' (first | (with_reducible (show runOps ..); first | (refine Qr rfl ?_; try intro K' hK; try simp only [go_sem, *])) | (with_reducible (show Hold ..); first | refine Qh rfl ?_ | (refine s_cond rfl ⟨_, rfl, fun hb => ?_, fun hb => ?_⟩ <;> (have hc := hb; try simp only [go_sem] at hc)) | refine s_ret rfl ?_) | ((with_reducible refine Qb ?_ ?_); focus kernel_rfl) | ((with_reducible refine And.intro ?_ ?_); focus omega) | (refine contA_of hK ?_; clear hK K'; simp only [go_sem, *]) | (simp only [thenA, inBlockA, go_sem, *]))
      refine ⟨[_], [some 1], [], ⟨rfl, trivial⟩, ?_⟩
      simp only [go_sem, *]
def idxH (l : List House) (x : House) : Int := if x ∈ l then (l.idxOf x : Nat) else -1
theorem idxH_of {l : List House} {x : House} (h : x ∈ l) : idxH l x = (l.idxOf x : Nat) := by simp [idxH, h]
theorem idxH_none {l : List House} {x : House} (hn : x ∉ l) : idxH l x = -1 := by simp [idxH, hn]
theorem takeH_notin {l : List House} {i : Nat} {x : House} (h : i < l.length) (hn : x ∉ l.take i) (hx : ¬ l.getD i default = x) : x ∉ l.take (i + 1) := by
  rw [List.take_add_one]
  simp only [List.getD_eq_getElem?_getD, List.getElem?_eq_getElem h, Option.getD_some] at hx
  simp only [List.getElem?_eq_getElem h, Option.toList_some, List.mem_append, List.mem_singleton, not_or]
  exact ⟨hn, fun e => hx e.symm⟩
theorem idxH_found {l : List House} {i : Nat} {x : House} (h : i < l.length) (hn : x ∉ l.take i) (hx : l.getD i default = x) : idxH l x = i := by
  have hg : l.drop i = x :: l.drop (i + 1) := by rw [drop_cons h, hx]
  have hl : l = l.take i ++ x :: l.drop (i + 1) := by rw [← hg, List.take_append_drop]
  have hm : x ∈ l := by rw [hl]; simp
  rw [idxH_of hm]
  conv => lhs; rw [hl]
  rw [List.idxOf_append, if_neg hn]
  simp; omega
theorem sp_Index_place (l : List House) (x : House) (h1 : l.length ≤ 4294967296) : Spec Tryz.prog 142 [.list (l.map House.enc), x.enc] [] (iV (idxH l x)) [] := by
  refine spec_body Tryz.func142 rfl (fun E hE => ?_); simp only [go_sem, Tryz.ntmps142]
  repeat' (first | (with_reducible (show runOps ..); first | (refine Qr rfl ?_; try intro K' hK; try simp only [go_sem, *])) | (with_reducible (show Hold ..); first | refine Qh rfl ?_ | refine s_draw rfl Tryz.mixed (by kernel_rfl) ?_ | (refine s_cond rfl ⟨_, rfl, fun hb => ?_, fun hb => ?_⟩ <;> (have hc := hb; try simp only [go_sem] at hc)) | refine s_ret rfl ?_) | ((with_reducible refine Qb ?_ ?_); focus kernel_rfl) | ((with_reducible refine And.intro ?_ ?_); focus omega) | (refine contA_of hK ?_; clear hK K'; simp only [go_sem, *]) | (simp only [thenA, inBlockA, go_sem, *]))
  refine s_loop rfl (fun zn zN zenv zAs => ∃ (i : Nat), zn = (l.length) - i ∧ i ≤ (l.length) ∧ (x ∉ l.take i) ∧ zN = 19 ∧ zenv = [(8, iV i), (7, iV l.length), (3, .ptr 0 0), (0, .list (l.map House.enc))] ∧ zAs = [.box [iV x.street, iV x.plate.number, iV x.plate.letter]]) (l.length) ⟨[some 0], [], _, _, _, (by (simp only [Weak, go_sem, List.map_append, List.map_set, *] <;> (try simp (disch := omega) only [wrap_succ]) <;> (try simp) <;> (try omega))), 0, (by simp), (by simp), (by simp), rfl, rfl, rfl⟩ ?_; rintro _ _ _ _ ⟨i, rfl, hi, hP, rfl, rfl, rfl⟩
  repeat' (first | (with_reducible (show runOps ..); first | (refine Qr rfl ?_; try intro K' hK; try simp only [go_sem, *])) | (with_reducible (show Hold ..); first | refine Qh rfl ?_ | refine s_draw rfl Tryz.mixed (by kernel_rfl) ?_ | (refine s_cond rfl ⟨_, rfl, fun hb => ?_, fun hb => ?_⟩ <;> (have hc := hb; try simp only [go_sem] at hc)) | refine s_ret rfl ?_) | ((with_reducible refine Qb ?_ ?_); focus kernel_rfl) | ((with_reducible refine And.intro ?_ ?_); focus omega) | (refine contA_of hK ?_; clear hK K'; simp only [go_sem, *]) | (simp only [thenA, inBlockA, go_sem, *]))
  · (refine ⟨[_], [], [], ⟨rfl, trivial⟩, ?_⟩; simp only [go_sem, *])
    have e : x = l.getD i default := by assumption
    rw [← e]
    exact int_eq (idxH_found (by assumption) hP e.symm)
  · refine ⟨_, (by omega), [some 0], [], _, _, _, (by (simp only [Weak, go_sem, List.map_append, List.map_set, *] <;> (try simp (disch := omega) only [wrap_succ]) <;> (try simp) <;> (try omega))), i + 1, rfl, (by omega), (by exact takeH_notin (by assumption) hP (fun e => absurd e.symm (by assumption))), rfl, rfl, rfl⟩
  · (refine ⟨[_], [], [], ⟨rfl, trivial⟩, ?_⟩; simp only [go_sem, *])
    rw [List.take_of_length_le (by omega)] at hP
    rw [idxH_none hP]
theorem sp_Contains_place (l : List House) (x : House) (h1 : l.length ≤ 4294967296) : Spec Tryz.prog 106 [.list (l.map House.enc), x.enc] [] (bV (decide (x ∈ l))) [] := by
  refine spec_body Tryz.func106 rfl (fun E hE => ?_); simp only [go_sem, Tryz.ntmps106]
  repeat' (first | (with_reducible (show runOps ..); first | (refine Qr rfl ?_; try intro K' hK; try simp only [go_sem, *])) | (with_reducible (show Hold ..); first | refine Qh rfl ?_ | (refine s_cond rfl ⟨_, rfl, fun hb => ?_, fun hb => ?_⟩ <;> (have hc := hb; try simp only [go_sem] at hc)) | refine s_ret rfl ?_) | (with_reducible (show callA ..); first | (refine call_s (sp_Index_place l x h1) ?_ ?_; (focus (simp only [go_sem, *]; done)); simp only [go_sem, *])) | ((with_reducible refine Qb ?_ ?_); focus kernel_rfl) | ((with_reducible refine And.intro ?_ ?_); focus omega) | (refine contA_of hK ?_; clear hK K'; simp only [go_sem, *]) | (simp only [thenA, inBlockA, go_sem, *]))
  (refine ⟨[_], [], [], ⟨rfl, trivial⟩, ?_⟩; simp only [go_sem, *])
  refine bool_eq ?_
  by_cases hm : x ∈ l
  · simp [idxH_of hm, hm]
  · simp [idxH_none hm, hm]
theorem sp_Compact_place (l : List House) (h1 : l.length ≤ 4294967296) (hn : l.Nodup) : Spec Tryz.prog 137 [.own 0 3 0 l.length] [.row 3 (l.map House.enc)] (.own 0 3 0 l.length) [.row 3 (l.map House.enc)] := by
  have hne : ∀ i, i + 1 < l.length → ¬ l.getD (i + 1) default = l.getD i default := fun i hi e => by
    have e1 : l.getD (i + 1) default = l[i + 1] := by simp [List.getD, hi]
    have e2 : l.getD i default = l[i] := by simp [List.getD, show i < l.length by omega]
    rw [e1, e2] at e
    have := (nodup_inj hn).1 e
    omega
  refine spec_body Tryz.func137 rfl (fun E hE => ?_); simp only [go_sem, Tryz.ntmps137]
  repeat' (first | (with_reducible (show runOps ..); first | (refine Qr rfl ?_; try intro K' hK; try simp only [go_sem, *])) | (with_reducible (show Hold ..); first | refine Qh rfl ?_ | refine s_draw rfl Tryz.mixed (by kernel_rfl) ?_ | (refine s_cond rfl ⟨_, rfl, fun hb => ?_, fun hb => ?_⟩ <;> (have hc := hb; try simp only [go_sem] at hc)) | refine s_ret rfl ?_) | ((with_reducible refine Qb ?_ ?_); focus kernel_rfl) | ((with_reducible refine And.intro ?_ ?_); focus omega) | (refine contA_of hK ?_; clear hK K'; simp only [go_sem, *]) | (simp only [thenA, inBlockA, go_sem, *]))
  · refine ⟨[_], [some 0], [], ⟨rfl, trivial⟩, ?_⟩
    simp only [go_sem, *]
  · refine s_loop rfl (fun zn zN zenv zAs => ∃ (i : Nat), zn = (l.length - 1) - i ∧ i ≤ (l.length - 1) ∧ (NoP i) ∧ zN = 61 ∧ zenv = [(3, iV ((i : Int) + 1)), (0, .own 0 3 0 l.length)] ∧ zAs = [.row 3 (l.map House.enc)]) (l.length - 1) ⟨[some 0], [], _, _, _, (by (simp only [Weak, go_sem, List.map_append, List.map_set, *] <;> (try simp (disch := omega) only [wrap_succ]) <;> (try simp) <;> (try omega))), 0, (by simp), (by simp), (by trivial), rfl, rfl, rfl⟩ ?_; rintro _ _ _ _ ⟨i, rfl, hi, hP, rfl, rfl, rfl⟩
    have hw1 : i + 1 < l.length → IntKind.i64.wrap ((i : Int) + 1 - 1) = (i : Int) := fun h => by rw [wrap_i64 (by omega) (by omega)]; omega
    have hw2 : i + 1 < l.length → IntKind.i64.wrap ((i : Int) + 1 + 1) = (((i + 1 : Nat) : Int) + 1) := fun h => by rw [wrap_i64 (by omega) (by omega)]; omega
    have hlt : ((i : Int) + 1 < (l.length : Int)) = (i + 1 < l.length) := by simp only [eq_iff_iff]; omega
    have htn : ((i : Int) + 1).toNat = i + 1 := by omega
    by_cases h2 : i + 1 < l.length
    · have h3 : i < l.length := by omega
      have hne := hne i h2
      have hne' : decide (l.getD (i + 1) default = l.getD i default) = false := by simpa using hne
      repeat' (first | (with_reducible (show runOps ..); first | (refine Qr rfl ?_; try intro K' hK; try simp only [go_sem, *])) | (with_reducible (show Hold ..); first | refine Qh rfl ?_ | refine s_draw rfl Tryz.mixed (by kernel_rfl) ?_ | (refine s_cond rfl ⟨_, rfl, fun hb => ?_, fun hb => ?_⟩ <;> (have hc := hb; try simp only [go_sem] at hc)) | refine s_ret rfl ?_) | ((with_reducible refine Qb ?_ ?_); focus kernel_rfl) | ((with_reducible refine And.intro ?_ ?_); focus omega) | (refine contA_of hK ?_; clear hK K'; simp only [go_sem, *]) | (simp only [thenA, inBlockA, go_sem, *]))
      all_goals first | contradiction | skip
      refine ⟨_, (by omega), [some 0], [], _, _, _, (by (simp only [Weak, go_sem, List.map_append, List.map_set, *] <;> (try simp (disch := omega) only [wrap_succ]) <;> (try simp) <;> (try omega))), i + 1, rfl, (by omega), (by trivial), rfl, rfl, rfl⟩
    · repeat' (first | (with_reducible (show runOps ..); first | (refine Qr rfl ?_; try intro K' hK; try simp only [go_sem, *])) | (with_reducible (show Hold ..); first | refine Qh rfl ?_ | refine s_draw rfl Tryz.mixed (by kernel_rfl) ?_ | (refine s_cond rfl ⟨_, rfl, fun hb => ?_, fun hb => ?_⟩ <;> (have hc := hb; try simp only [go_sem] at hc)) | refine s_ret rfl ?_) | ((with_reducible refine Qb ?_ ?_); focus kernel_rfl) | ((with_reducible refine And.intro ?_ ?_); focus omega) | (refine contA_of hK ?_; clear hK K'; simp only [go_sem, *]) | (simp only [thenA, inBlockA, go_sem, *]))
      refine ⟨[_], [some 0], [], ⟨rfl, trivial⟩, ?_⟩
      simp only [go_sem, *]
theorem isort_strict_houses {xs : List House} (hn : xs.Nodup) : Strict (isort cmpH xs) := by
  have h1 := isort_sorted cmpH ordr_cmpH xs
  have h2 : (isort cmpH xs).Nodup := (isort_perm cmpH xs).nodup_iff.2 hn
  refine (h1.and h2).imp (fun {a b} h => ?_)
  rcases House.lt_tri a b with h3 | h3 | h3
  · exact h3
  · exact absurd h3 h.2
  · exact absurd ((cmpH_lt b a).2 h3) h.1
theorem isort_sortH {xs : List House} (hn : xs.Nodup) : isort cmpH xs = sortH xs :=
  strict_uniq (isort_strict_houses hn) (strict_sortH xs) (fun z => by rw [(isort_perm cmpH xs).mem_iff, mem_sortH])
theorem sp_sorted (l : List House) (hn : l.Nodup) (h12 : l.length ≤ 12) : Spec Tryz.prog 99 [.list (l.map House.enc)] [] (.list ((sortH l).map House.enc)) [] := by
  have hcal : callable Tryz.prog 136 = true := by kernel_rfl
  have ss := sp_SortFunc_House hcal (fun a b => sp_comparePlaces a b) l h12
  rw [isort_sortH hn] at ss
  have hl : (sortH l).length = l.length := by rw [← isort_sortH hn]; exact (isort_perm cmpH l).length_eq
  have hns : (sortH l).Nodup := by rw [← isort_sortH hn]; exact (isort_perm cmpH l).nodup_iff.2 hn
  have sc := sp_Compact_place (sortH l) (by omega) hns
  rw [hl] at sc
  have hl2 : l.length ≤ (sortH l).length := by omega
  have hl3 : (sortH l).length ≤ l.length := by omega
  clear hl hns
  have hcl := sp_Clone_place l (by omega)
  refine spec_body Tryz.func99 rfl (fun E hE => ?_); simp only [go_sem, Tryz.ntmps99]
  repeat' (first | (with_reducible (show runOps ..); first | (refine Qr rfl ?_; try intro K' hK; try simp only [go_sem, *])) | (with_reducible (show Hold ..); first | refine Qh rfl ?_ | (refine s_cond rfl ⟨_, rfl, fun hb => ?_, fun hb => ?_⟩ <;> (have hc := hb; try simp only [go_sem] at hc)) | refine s_ret rfl ?_) | (with_reducible (show callA ..); first | (refine call_n (hcl) ?_ ?_ ?_ ?_; (focus (simp only [go_sem, *]; done)); (focus (first | (simp; done) | (simp [go_sem]; done))); (focus (first | (simp; done) | (simp [go_sem]; done))); simp only [go_sem, *])) | ((with_reducible refine Qb ?_ ?_); focus kernel_rfl) | ((with_reducible refine And.intro ?_ ?_); focus omega) | (refine contA_of hK ?_; clear hK K'; simp only [go_sem, *]) | (simp only [thenA, inBlockA, go_sem, *]))
  refine call_of [0] [] ss (by simp) (by simp only [go_sem, *]) (by simp only [go_sem, AObj.live, *]) (by simp) (.inl rfl) (by simp [go_sem]) (by simp) ?_
  simp only [go_sem, *]
  repeat' (first | (with_reducible (show runOps ..); first | (refine Qr rfl ?_; try intro K' hK; try simp only [go_sem, *])) | (with_reducible (show Hold ..); first | refine Qh rfl ?_ | (refine s_cond rfl ⟨_, rfl, fun hb => ?_, fun hb => ?_⟩ <;> (have hc := hb; try simp only [go_sem] at hc)) | refine s_ret rfl ?_) | ((with_reducible refine Qb ?_ ?_); focus kernel_rfl) | ((with_reducible refine And.intro ?_ ?_); focus omega) | (refine contA_of hK ?_; clear hK K'; simp only [go_sem, *]) | (simp only [thenA, inBlockA, go_sem, *]))
  refine call_of [0] [] sc (by simp) (by simp only [go_sem, *]) (by simp only [go_sem, AObj.live, *]) (by simp) (.inl rfl) (by simp [go_sem]) (by simp) ?_
  simp only [go_sem, *]
  repeat' (first | (with_reducible (show runOps ..); first | (refine Qr rfl ?_; try intro K' hK; try simp only [go_sem, *])) | (with_reducible (show Hold ..); first | refine Qh rfl ?_ | (refine s_cond rfl ⟨_, rfl, fun hb => ?_, fun hb => ?_⟩ <;> (have hc := hb; try simp only [go_sem] at hc)) | refine s_ret rfl ?_) | ((with_reducible refine Qb ?_ ?_); focus kernel_rfl) | ((with_reducible refine And.intro ?_ ?_); focus omega) | (refine contA_of hK ?_; clear hK K'; simp only [go_sem, *]) | (simp only [thenA, inBlockA, go_sem, *]))
  refine ⟨[_], [], [0], ⟨rfl, trivial⟩, ?_⟩
  simp only [go_sem, *]
  exact (List.take_of_length_le (by simpa using hl3)).symm
end Go.Abs

namespace Go.Abs
open Go Go.Proofs
set_option maxRecDepth 10000
@[go_sem] theorem ofVal_key (h : House) : ofVal h.key = h.enc := by simp [House.key, House.enc, ofVal, Value.oneCell']
def ThP (hs don rem : List House) (i : Nat) : Prop := rem.length + i = hs.length ∧ (don ++ rem).Perm hs
def thenF (f g : House → List House) (h : House) : List House := sortH ((f h).flatMap g)
theorem sp_then (hs ks : List House) (f g : House → List House) (hn : hs.Nodup) (hw : ∀ k, k ∈ hs → k.Wf) (kw : ∀ k, k ∈ ks → k.Wf) (hk : ∀ h, h ∈ hs → ∀ x, x ∈ f h → x ∈ ks) (hnd : ∀ h, h ∈ hs → ((f h).flatMap g).Nodup) (h12 : ∀ h, h ∈ hs → ((f h).flatMap g).length ≤ 12)
    (hsl : hs.length ≤ 1000) (hfl : ∀ h, h ∈ hs → (f h).length ≤ 1000) (hgl : ∀ x, x ∈ ks → (g x).length ≤ 1000) :
    Spec Tryz.prog 165 [.fmap (hs.map House.key) (hs.map (MapV f)), .fmap (ks.map House.key) (ks.map (MapV g))] [] (.fmap (hs.map House.key) (hs.map (MapV (thenF f g)))) [] := by
  have hmt : (mapT Tryz.prog 121).isSome = true := by kernel_rfl
  refine spec_body Tryz.func165 rfl (fun E hE => ?_); simp only [go_sem, Tryz.ntmps165]
  repeat' (first | (with_reducible (show runOps ..); first | (refine Qr rfl ?_; try intro K' hK; try simp only [go_sem, *])) | (with_reducible (show Hold ..); first | refine Qh rfl ?_ | refine s_draw rfl Tryz.mixed (by kernel_rfl) ?_ | (refine s_cond rfl ⟨_, rfl, fun hb => ?_, fun hb => ?_⟩ <;> (have hc := hb; try simp only [go_sem] at hc)) | refine s_ret rfl ?_) | ((with_reducible refine Qb ?_ ?_); focus kernel_rfl) | ((with_reducible refine And.intro ?_ ?_); focus omega) | (refine contA_of hK ?_; clear hK K'; simp only [go_sem, *]) | (simp only [thenA, inBlockA, go_sem, *]))
  refine s_loop rfl (fun zn zN zenv zAs => ∃ (i : Nat) (cur : Option (Value × AV)) (don rem : List House), zn = (hs.length) - i ∧ i ≤ (hs.length) ∧ (ThP hs don rem i) ∧ zN = 36 ∧ zenv = [(5, .mp 0), (13, .ptr 1 0), (1, .fmap (ks.map House.key) (ks.map (MapV g)))] ∧ zAs = [.mapo (don.map House.key) (don.map (MapV (thenF f g))), .iter cur (rem.map House.key) (rem.map (MapV f))]) (hs.length) ⟨[some 0, some 1], [], _, _, _, (by (simp only [Weak, go_sem, List.map_append, List.map_set, *] <;> (try simp (disch := omega) only [wrap_succ]) <;> (try simp) <;> (try omega))), 0, none, [], hs, (by simp), (by simp), (by exact ⟨by omega, by simp⟩), rfl, rfl, rfl⟩ ?_; rintro _ _ _ _ ⟨i, cur, don, rem, rfl, hi, hP, rfl, rfl, rfl⟩
  refine s_seq rfl ?_
  refine s_next (o := 1) rfl rfl rfl rfl rfl rfl rfl cur (rem.map House.key) (rem.map (MapV f)) (by simp only [go_sem]) (by simp only [go_sem]) (show (14 : Nat) < 36 by decide) (show (15 : Nat) < 36 by decide) (fun hk0 _ => ?_) (fun r hr1 hr2 => ?_)
  · obtain rfl : rem = [] := by simpa using hk0
    simp only [go_sem]
    repeat' (first | (with_reducible (show runOps ..); first | (refine Qr rfl ?_; try intro K' hK; try simp only [go_sem, *])) | (with_reducible (show Hold ..); first | refine Qh rfl ?_ | refine s_draw rfl Tryz.mixed (by kernel_rfl) ?_ | (refine s_cond rfl ⟨_, rfl, fun hb => ?_, fun hb => ?_⟩ <;> (have hc := hb; try simp only [go_sem] at hc)) | refine s_ret rfl ?_) | ((with_reducible refine Qb ?_ ?_); focus kernel_rfl) | ((with_reducible refine And.intro ?_ ?_); focus omega) | (refine contA_of hK ?_; clear hK K'; simp only [go_sem, *]) | (simp only [thenA, inBlockA, go_sem, *]))
    obtain ⟨_, p0⟩ := hP
    rw [List.append_nil] at p0
    have hpm : MPerm (hs.map House.key) (hs.map (MapV (thenF f g))) (don.map House.key) (don.map (MapV (thenF f g))) := by
      refine .inr ⟨by simp, by simp, ?_⟩
      rw [List.zip_map', List.zip_map']
      exact (p0.map _).symm
    refine ⟨[_], [], [0], ⟨rfl, trivial⟩, ?_⟩
    simp only [go_sem, *]
  · obtain ⟨hr, hrk, hrx⟩ : ∃ hr : r < rem.length, (rem.map House.key)[r] = (rem[r]).key ∧ (rem.map (MapV f))[r] = .list ((f rem[r]).map House.enc) := ⟨by simpa using hr1, by simp, by simp [MapV]⟩
    rw [hrk, hrx, ← map_eraseIdx', ← map_eraseIdx']
    obtain ⟨hlen0, hperm⟩ := hP
    have hq : (rem[r] :: rem.eraseIdx r).Perm rem := (erase_perm rem r hr).symm
    have hel : (rem.eraseIdx r).length = rem.length - 1 := List.length_eraseIdx_of_lt hr
    clear hrk hrx
    generalize rem.eraseIdx r = rem' at *
    generalize rem[r] = h at *
    have hq2 : ((don ++ [h]) ++ rem').Perm hs := by
      rw [List.append_assoc]
      exact (List.Perm.append_left don hq).trans hperm
    have hmh : h ∈ hs := hq2.mem_iff.1 (by simp)
    have hmd : ∀ k, k ∈ don → k ∈ hs := fun k hk => hq2.mem_iff.1 (by simp [hk])
    have hnd2 := hq2.nodup_iff.2 hn
    have hnot : h ∉ don := fun hd => by
      rw [List.append_assoc] at hnd2
      exact (List.nodup_append.1 hnd2).2.2 h hd h (by simp) rfl
    have hil : i < hs.length := by omega
    have hfh := hfl h hmh
    have hkh := hk h hmh
    have hndh := hnd h hmh
    have h12h := h12 h hmh
    clear hq hperm hnd2
    simp only [go_sem]
    repeat' (first | (with_reducible (show runOps ..); first | (refine Qr rfl ?_; try intro K' hK; try simp only [go_sem, *])) | (with_reducible (show Hold ..); first | refine Qh rfl ?_ | refine s_draw rfl Tryz.mixed (by kernel_rfl) ?_ | (refine s_cond rfl ⟨_, rfl, fun hb => ?_, fun hb => ?_⟩ <;> (have hc := hb; try simp only [go_sem] at hc)) | refine s_ret rfl ?_) | ((with_reducible refine Qb ?_ ?_); focus kernel_rfl) | ((with_reducible refine And.intro ?_ ?_); focus omega) | (refine contA_of hK ?_; clear hK K'; simp only [go_sem, *]) | (simp only [thenA, inBlockA, go_sem, *]))
    refine s_loop rfl (fun zn zN zenv zAs => ∃ (j : Nat) (acc : List House), zn = ((f h).length) - j ∧ j ≤ ((f h).length) ∧ (acc ++ ((f h).drop j).flatMap g = (f h).flatMap g) ∧ zN = 36 ∧ zenv = [(21, iV j), (20, iV (f h).length), (19, .list ((f h).map House.enc)), (8, .own 3 3 0 acc.length), (6, .ptr 2 0), (5, .mp 0), (13, .ptr 1 0), (1, .fmap (ks.map House.key) (ks.map (MapV g)))] ∧ zAs = [.mapo (don.map House.key) (don.map (MapV (thenF f g))), .iter (some (h.key, .list ((f h).map House.enc))) (rem'.map House.key) (rem'.map (MapV f)), .box [iV h.street, iV h.plate.number, iV h.plate.letter], .row 3 (acc.map House.enc)]) ((f h).length) ⟨[some 0, some 1, some 2, none], [], _, _, _, (by (simp only [Weak, go_sem, List.map_append, List.map_set, *] <;> (try simp (disch := omega) only [wrap_succ]) <;> (try simp) <;> (try omega))), 0, [], (by simp), (by simp), (by simp), rfl, rfl, rfl⟩ ?_; rintro _ _ _ _ ⟨j, acc, rfl, hj, hQ, rfl, rfl, rfl⟩
    have hql := congrArg List.length hQ
    simp only [List.length_append] at hql
    by_cases hj : j < (f h).length
    · have hdj := drop_cons hj
      rw [hdj, List.flatMap_cons] at hQ hql
      simp only [List.length_append] at hql
      have hxk := hkh _ (getD_mem hj)
      have hxw := kw _ hxk
      have hgx := hgl _ hxk
      clear hdj
      repeat' (first | (with_reducible (show runOps ..); first | (refine Qr rfl ?_; try intro K' hK; try simp only [go_sem, *])) | (with_reducible (show Hold ..); first | refine Qh rfl ?_ | refine s_draw rfl Tryz.mixed (by kernel_rfl) ?_ | (refine s_cond rfl ⟨_, rfl, fun hb => ?_, fun hb => ?_⟩ <;> (have hc := hb; try simp only [go_sem] at hc)) | refine s_ret rfl ?_) | ((with_reducible refine Qb ?_ ?_); focus kernel_rfl) | ((with_reducible refine And.intro ?_ ?_); focus omega) | (refine contA_of hK ?_; clear hK K'; simp only [go_sem, *]) | (simp only [thenA, inBlockA, go_sem, *]))
      refine look_fhouse (h := (f h).getD j default) (hs := ks) (F := MapV g) kw hxw ?_
      rw [if_pos hxk, MapV]
      repeat' (first | (with_reducible (show runOps ..); first | (refine Qr rfl ?_; try intro K' hK; try simp only [go_sem, *])) | (with_reducible (show Hold ..); first | refine Qh rfl ?_ | refine s_draw rfl Tryz.mixed (by kernel_rfl) ?_ | (refine s_cond rfl ⟨_, rfl, fun hb => ?_, fun hb => ?_⟩ <;> (have hc := hb; try simp only [go_sem] at hc)) | refine s_ret rfl ?_) | ((with_reducible refine Qb ?_ ?_); focus kernel_rfl) | ((with_reducible refine And.intro ?_ ?_); focus omega) | (refine contA_of hK ?_; clear hK K'; simp only [go_sem, *]) | (simp only [thenA, inBlockA, go_sem, *]))
      refine ⟨fun y hy => ?_, fun y hy => ?_, by omega, ?_⟩
      · obtain ⟨z, _, rfl⟩ := List.mem_map.1 hy
        simp [go_sem]
      · obtain ⟨z, _, rfl⟩ := List.mem_map.1 hy
        simp [go_sem]
      · repeat' (first | (with_reducible (show runOps ..); first | (refine Qr rfl ?_; try intro K' hK; try simp only [go_sem, *])) | (with_reducible (show Hold ..); first | refine Qh rfl ?_ | refine s_draw rfl Tryz.mixed (by kernel_rfl) ?_ | (refine s_cond rfl ⟨_, rfl, fun hb => ?_, fun hb => ?_⟩ <;> (have hc := hb; try simp only [go_sem] at hc)) | refine s_ret rfl ?_) | ((with_reducible refine Qb ?_ ?_); focus kernel_rfl) | ((with_reducible refine And.intro ?_ ?_); focus omega) | (refine contA_of hK ?_; clear hK K'; simp only [go_sem, *]) | (simp only [thenA, inBlockA, go_sem, *]))
        refine ⟨_, (by omega), [some 0, some 1, some 2, some 5], [], _, _, _, (by (simp only [Weak, go_sem, List.map_append, List.map_set, *] <;> (try simp (disch := omega) only [wrap_succ]) <;> (try simp) <;> (try omega))), j + 1, acc ++ g ((f h).getD j default), rfl, (by omega), (by rw [← hQ]; simp), rfl, rfl, rfl⟩
    · rw [drop_end (by omega), List.flatMap_nil, List.append_nil] at hQ
      subst hQ
      repeat' (first | (with_reducible (show runOps ..); first | (refine Qr rfl ?_; try intro K' hK; try simp only [go_sem, *])) | (with_reducible (show Hold ..); first | refine Qh rfl ?_ | refine s_draw rfl Tryz.mixed (by kernel_rfl) ?_ | (refine s_cond rfl ⟨_, rfl, fun hb => ?_, fun hb => ?_⟩ <;> (have hc := hb; try simp only [go_sem] at hc)) | refine s_ret rfl ?_) | ((with_reducible refine Qb ?_ ?_); focus kernel_rfl) | ((with_reducible refine And.intro ?_ ?_); focus omega) | (refine contA_of hK ?_; clear hK K'; simp only [go_sem, *]) | (simp only [thenA, inBlockA, go_sem, *]))
      refine call_fz (gone := [3]) (sp_sorted ((f h).flatMap g) hndh h12h) (by simp only [go_sem, *]; simp [List.take_of_length_le]) (by simp only [go_sem, *]; simp) (by simp only [go_sem]) (by simp) (by simp) ?_
      simp only [go_sem, deads]
      repeat' (first | (with_reducible (show runOps ..); first | (refine Qr rfl ?_; try intro K' hK; try simp only [go_sem, *])) | (with_reducible (show Hold ..); first | refine Qh rfl ?_ | refine s_draw rfl Tryz.mixed (by kernel_rfl) ?_ | (refine s_cond rfl ⟨_, rfl, fun hb => ?_, fun hb => ?_⟩ <;> (have hc := hb; try simp only [go_sem] at hc)) | refine s_ret rfl ?_) | ((with_reducible refine Qb ?_ ?_); focus kernel_rfl) | ((with_reducible refine And.intro ?_ ?_); focus omega) | (refine contA_of hK ?_; clear hK K'; simp only [go_sem, *]) | (simp only [thenA, inBlockA, go_sem, *]))
      refine new_house (h := h) (hs := don) (xs := don.map (MapV (thenF f g))) (by simp only [go_sem, *]) (fun k hk => hw k (hmd k hk)) (hw h hmh) hnot (by simp only [go_sem, *]) (by simp only [go_sem, *]) ?_
      simp only [go_sem, *]
      repeat' (first | (with_reducible (show runOps ..); first | (refine Qr rfl ?_; try intro K' hK; try simp only [go_sem, *])) | (with_reducible (show Hold ..); first | refine Qh rfl ?_ | refine s_draw rfl Tryz.mixed (by kernel_rfl) ?_ | (refine s_cond rfl ⟨_, rfl, fun hb => ?_, fun hb => ?_⟩ <;> (have hc := hb; try simp only [go_sem] at hc)) | refine s_ret rfl ?_) | ((with_reducible refine Qb ?_ ?_); focus kernel_rfl) | ((with_reducible refine And.intro ?_ ?_); focus omega) | (refine contA_of hK ?_; clear hK K'; simp only [go_sem, *]) | (simp only [thenA, inBlockA, go_sem, *]))
      have hM : MapV (thenF f g) h = .list ((sortH ((f h).flatMap g)).map House.enc) := rfl
      refine ⟨_, (by omega), [some 0, some 1], [], _, _, _, (by (simp only [Weak, go_sem, List.map_append, List.map_set, *] <;> (try simp (disch := omega) only [wrap_succ]) <;> (try simp) <;> (try omega))), i + 1, (some (h.key, .list ((f h).map House.enc))), don ++ [h], rem', rfl, (by omega), (by exact ⟨by omega, hq2⟩), rfl, rfl, rfl⟩
end Go.Abs

namespace Go.Abs
open Go Go.Proofs
set_option maxRecDepth 10000
set_option maxHeartbeats 4000000
def waysErr : List Change → Int
  | [] => 0
  | c :: r => if betw c.kind 1 7 = true then waysErr r else 8
def stepsErr : List (List Change) → Int
  | [] => 0
  | w :: r => if w.length = 0 then 7 else if 3 < w.length then 6 else if waysErr w = 0 then stepsErr r else 8
def factsErr (p : Plan) : List Fact → Int
  | [] => 0
  | f :: r => if f.src ∈ housesOf p ∧ betw f.dst.street 0 (p.length - 1) = true then (if f.dst.plate.ok = true then factsErr p r else 1) else 3
def factsErr0 (s : Story) : Int := if 4 < s.facts.length then 6 else factsErr s.first s.facts
def stepsErr0 (s : Story) (l : List (List Change)) : Int := if stepsErr l = 0 then factsErr0 s else stepsErr l
def storyErr (s : Story) : Int := if check s.first = 0 then if 3 < s.steps.length then 6 else stepsErr0 s s.steps else check s.first
def taleBox (s : Story) : AObj := .box [.list (s.first.map encStreet), .list (s.steps.map encStep), .list (s.facts.map Fact.enc), .list ((housesOf s.first).map House.enc)]
attribute [go_sem] taleBox
abbrev nilP : AV := .raw (.pointer none)
def G0 (G : Int) (R : AV) (out : List AObj) (s : Story) : Prop := (G = 0 → R = .tup [.ptr 0 0, iV 0] ∧ out = [taleBox s]) ∧ (G ≠ 0 → R = .tup [nilP, iV G] ∧ out = [])
theorem waysErr_drop {l : List Change} {i : Nat} (h : i < l.length) : waysErr (l.drop i) = if betw (l.getD i default).kind 1 7 = true then waysErr (l.drop (i + 1)) else 8 := by
  rw [drop_cons h, waysErr]
theorem stepsErr_drop {l : List (List Change)} {i : Nat} (h : i < l.length) : stepsErr (l.drop i) = if (l.getD i default).length = 0 then 7 else if 3 < (l.getD i default).length then 6 else if waysErr (l.getD i default) = 0 then stepsErr (l.drop (i + 1)) else 8 := by
  rw [drop_cons h, stepsErr]
theorem factsErr_drop {p : Plan} {l : List Fact} {i : Nat} (h : i < l.length) : factsErr p (l.drop i) = if (l.getD i default).src ∈ housesOf p ∧ betw (l.getD i default).dst.street 0 (p.length - 1) = true then (if (l.getD i default).dst.plate.ok = true then factsErr p (l.drop (i + 1)) else 1) else 3 := by
  rw [drop_cons h, factsErr]
theorem sp_begin (s : Story) (hst : s.steps.length ≤ 4294967296) (hwl : ∀ w, w ∈ s.steps → w.length ≤ 4294967296) (hfl : s.facts.length ≤ 4294967296) (hpl : s.first.length ≤ 4294967296) (R : AV) (out : List AObj) (G : Int) (hG : storyErr s = G) (hR : G0 G R out s) :
    Spec Tryz.prog 138 [s.enc] [] R out := by
  have sc := sp_Check s.first hpl
  by_cases hc0 : check s.first = 0
  · rw [storyErr, if_pos hc0] at hG
    have v := (check_zero s.first).1 hc0
    rw [hc0] at sc
    clear hc0
    by_cases h3 : 3 < s.steps.length
    · have h3i : (s.steps.length : Int) > 3 := by omega
      rw [if_pos h3] at hG
      subst hG
      obtain ⟨rfl, rfl⟩ := hR.2 (by decide)
      clear hR
      refine spec_body Tryz.func138 rfl (fun E hE => ?_); simp only [go_sem, Tryz.ntmps138]
      repeat' (first | (with_reducible (show runOps ..); first | (refine Qr rfl ?_; try intro K' hK; try simp only [go_sem, *]) | (refine Qi rfl rfl rfl rfl (fun hb K' hK => ?_) (fun hb => ?_) <;> (have hc := hb; try simp only [go_sem] at hc; simp only [go_sem, *]))) | (with_reducible (show Hold ..); first | refine Qh rfl ?_ | refine s_draw rfl Tryz.mixed (by kernel_rfl) ?_ | (refine s_cond rfl ⟨_, rfl, fun hb => ?_, fun hb => ?_⟩ <;> (have hc := hb; try simp only [go_sem] at hc)) | refine s_ret rfl ?_) | (with_reducible (show callA ..); first | (refine call_s (sc) ?_ ?_; (focus (simp only [go_sem, *]; done)); simp only [go_sem, *])) | ((with_reducible refine Qb ?_ ?_); focus kernel_rfl) | ((with_reducible refine And.intro ?_ ?_); focus omega) | (refine contA_of hK ?_; clear hK K'; simp only [go_sem, *]) | (simp only [thenA, inBlockA, go_sem, *]))
      all_goals first | contradiction | skip
      all_goals (refine ⟨[_, _], [], [], ⟨rfl, rfl, trivial⟩, ?_⟩; simp only [go_sem, *])
    · have h3i : ¬ (s.steps.length : Int) > 3 := by omega
      rw [if_neg h3] at hG
      refine spec_body Tryz.func138 rfl (fun E hE => ?_); simp only [go_sem, Tryz.ntmps138]
      repeat' (first | (with_reducible (show runOps ..); first | (refine Qr rfl ?_; try intro K' hK; try simp only [go_sem, *]) | (refine Qi rfl rfl rfl rfl (fun hb K' hK => ?_) (fun hb => ?_) <;> (have hc := hb; try simp only [go_sem] at hc; simp only [go_sem, *]))) | (with_reducible (show Hold ..); first | refine Qh rfl ?_ | refine s_draw rfl Tryz.mixed (by kernel_rfl) ?_ | (refine s_cond rfl ⟨_, rfl, fun hb => ?_, fun hb => ?_⟩ <;> (have hc := hb; try simp only [go_sem] at hc)) | refine s_ret rfl ?_) | (with_reducible (show callA ..); first | (refine call_s (sc) ?_ ?_; (focus (simp only [go_sem, *]; done)); simp only [go_sem, *])) | ((with_reducible refine Qb ?_ ?_); focus kernel_rfl) | ((with_reducible refine And.intro ?_ ?_); focus omega) | (refine contA_of hK ?_; clear hK K'; simp only [go_sem, *]) | (simp only [thenA, inBlockA, go_sem, *]))
      all_goals first | contradiction | skip
      refine s_loop rfl (fun zn zN zenv zAs => ∃ (i : Nat), zn = (s.steps.length) - i ∧ i ≤ (s.steps.length) ∧ (stepsErr0 s (s.steps.drop i) = G) ∧ zN = 96 ∧ zenv = [(25, iV i), (24, iV s.steps.length), (23, .list (s.steps.map encStep)), (1, .ptr 0 0)] ∧ zAs = [.box [.list (s.first.map encStreet), .list (s.steps.map encStep), .list (s.facts.map Fact.enc)]]) (s.steps.length) ⟨[some 0], [], _, _, _, (by (simp only [Weak, go_sem, List.map_append, List.map_set, *] <;> (try simp (disch := omega) only [wrap_succ]) <;> (try simp) <;> (try omega))), 0, (by simp), (by simp), (by exact hG), rfl, rfl, rfl⟩ ?_; rintro _ _ _ _ ⟨i, rfl, hi, hP, rfl, rfl, rfl⟩
      clear hG
      by_cases hi2 : i < s.steps.length
      · unfold stepsErr0 at hP
        rw [stepsErr_drop hi2] at hP
        have hwi := hwl _ (getD_mem hi2)
        generalize hw : s.steps.getD i default = w at *
        by_cases hw0 : w.length = 0
        · have hw0i : (w.length : Int) = 0 := by omega
          rw [if_pos hw0, if_neg (by decide)] at hP
          subst hP
          obtain ⟨rfl, rfl⟩ := hR.2 (by decide)
          clear hR
          repeat' (first | (with_reducible (show runOps ..); first | (refine Qr rfl ?_; try intro K' hK; try simp only [go_sem, *]) | (refine Qi rfl rfl rfl rfl (fun hb K' hK => ?_) (fun hb => ?_) <;> (have hc := hb; try simp only [go_sem] at hc; simp only [go_sem, *]))) | (with_reducible (show Hold ..); first | refine Qh rfl ?_ | refine s_draw rfl Tryz.mixed (by kernel_rfl) ?_ | (refine s_cond rfl ⟨_, rfl, fun hb => ?_, fun hb => ?_⟩ <;> (have hc := hb; try simp only [go_sem] at hc)) | refine s_ret rfl ?_) | ((with_reducible refine Qb ?_ ?_); focus kernel_rfl) | ((with_reducible refine And.intro ?_ ?_); focus omega) | (refine contA_of hK ?_; clear hK K'; simp only [go_sem, *]) | (simp only [thenA, inBlockA, go_sem, *]))
          all_goals first | contradiction | skip
          (refine ⟨[_, _], [], [], ⟨rfl, rfl, trivial⟩, ?_⟩; simp only [go_sem, *])
        rw [if_neg hw0] at hP
        have hw0i : ¬ (w.length : Int) = 0 := by omega
        by_cases hw3 : 3 < w.length
        · have hw3i : (w.length : Int) > 3 := by omega
          rw [if_pos hw3, if_neg (by decide)] at hP
          subst hP
          obtain ⟨rfl, rfl⟩ := hR.2 (by decide)
          clear hR
          repeat' (first | (with_reducible (show runOps ..); first | (refine Qr rfl ?_; try intro K' hK; try simp only [go_sem, *]) | (refine Qi rfl rfl rfl rfl (fun hb K' hK => ?_) (fun hb => ?_) <;> (have hc := hb; try simp only [go_sem] at hc; simp only [go_sem, *]))) | (with_reducible (show Hold ..); first | refine Qh rfl ?_ | refine s_draw rfl Tryz.mixed (by kernel_rfl) ?_ | (refine s_cond rfl ⟨_, rfl, fun hb => ?_, fun hb => ?_⟩ <;> (have hc := hb; try simp only [go_sem] at hc)) | refine s_ret rfl ?_) | ((with_reducible refine Qb ?_ ?_); focus kernel_rfl) | ((with_reducible refine And.intro ?_ ?_); focus omega) | (refine contA_of hK ?_; clear hK K'; simp only [go_sem, *]) | (simp only [thenA, inBlockA, go_sem, *]))
          all_goals first | contradiction | skip
          (refine ⟨[_, _], [], [], ⟨rfl, rfl, trivial⟩, ?_⟩; simp only [go_sem, *])
        rw [if_neg hw3] at hP
        have hw3i : ¬ (w.length : Int) > 3 := by omega
        have hP0 : (if waysErr (w.drop 0) = 0 then stepsErr0 s (s.steps.drop (i + 1)) else 8) = G := by
          rw [← hP, List.drop_zero]
          unfold stepsErr0
          split <;> rfl
        clear hP
        repeat' (first | (with_reducible (show runOps ..); first | (refine Qr rfl ?_; try intro K' hK; try simp only [go_sem, *]) | (refine Qi rfl rfl rfl rfl (fun hb K' hK => ?_) (fun hb => ?_) <;> (have hc := hb; try simp only [go_sem] at hc; simp only [go_sem, *]))) | (with_reducible (show Hold ..); first | refine Qh rfl ?_ | refine s_draw rfl Tryz.mixed (by kernel_rfl) ?_ | (refine s_cond rfl ⟨_, rfl, fun hb => ?_, fun hb => ?_⟩ <;> (have hc := hb; try simp only [go_sem] at hc)) | refine s_ret rfl ?_) | ((with_reducible refine Qb ?_ ?_); focus kernel_rfl) | ((with_reducible refine And.intro ?_ ?_); focus omega) | (refine contA_of hK ?_; clear hK K'; simp only [go_sem, *]) | (simp only [thenA, inBlockA, go_sem, *]))
        all_goals first | contradiction | skip
        refine s_loop rfl (fun zn zN zenv zAs => ∃ (j : Nat), zn = (w.length) - j ∧ j ≤ (w.length) ∧ ((if waysErr (w.drop j) = 0 then stepsErr0 s (s.steps.drop (i + 1)) else 8) = G) ∧ zN = 96 ∧ zenv = [(40, iV j), (39, iV w.length), (38, .list (w.map Change.enc)), (25, iV i), (24, iV s.steps.length), (23, .list (s.steps.map encStep)), (1, .ptr 0 0)] ∧ zAs = [.box [.list (s.first.map encStreet), .list (s.steps.map encStep), .list (s.facts.map Fact.enc)]]) (w.length) ⟨[some 0], [], _, _, _, (by (simp only [Weak, go_sem, List.map_append, List.map_set, *] <;> (try simp (disch := omega) only [wrap_succ]) <;> (try simp) <;> (try omega))), 0, (by simp), (by simp), (by exact hP0), rfl, rfl, rfl⟩ ?_; rintro _ _ _ _ ⟨j, rfl, hj, hQ, rfl, rfl, rfl⟩
        by_cases hj : j < w.length
        · rw [waysErr_drop hj] at hQ
          have sb := sp_between (w.getD j default).kind 1 7
          by_cases hbt : betw (w.getD j default).kind 1 7 = true
          · rw [if_pos hbt] at hQ
            rw [hbt] at sb
            repeat' (first | (with_reducible (show runOps ..); first | (refine Qr rfl ?_; try intro K' hK; try simp only [go_sem, *]) | (refine Qi rfl rfl rfl rfl (fun hb K' hK => ?_) (fun hb => ?_) <;> (have hc := hb; try simp only [go_sem] at hc; simp only [go_sem, *]))) | (with_reducible (show Hold ..); first | refine Qh rfl ?_ | refine s_draw rfl Tryz.mixed (by kernel_rfl) ?_ | (refine s_cond rfl ⟨_, rfl, fun hb => ?_, fun hb => ?_⟩ <;> (have hc := hb; try simp only [go_sem] at hc)) | refine s_ret rfl ?_) | (with_reducible (show callA ..); first | (refine call_s (sb) ?_ ?_; (focus (simp only [go_sem, *]; done)); simp only [go_sem, *])) | ((with_reducible refine Qb ?_ ?_); focus kernel_rfl) | ((with_reducible refine And.intro ?_ ?_); focus omega) | (refine contA_of hK ?_; clear hK K'; simp only [go_sem, *]) | (simp only [thenA, inBlockA, go_sem, *]))
            all_goals first | contradiction | skip
            refine ⟨_, (by omega), [some 0], [], _, _, _, (by (simp only [Weak, go_sem, List.map_append, List.map_set, *] <;> (try simp (disch := omega) only [wrap_succ]) <;> (try simp) <;> (try omega))), j + 1, rfl, (by omega), (by exact hQ), rfl, rfl, rfl⟩
          · rw [if_neg hbt, if_neg (by decide)] at hQ
            rw [Bool.not_eq_true] at hbt
            rw [hbt] at sb
            subst hQ
            obtain ⟨rfl, rfl⟩ := hR.2 (by decide)
            clear hR
            repeat' (first | (with_reducible (show runOps ..); first | (refine Qr rfl ?_; try intro K' hK; try simp only [go_sem, *]) | (refine Qi rfl rfl rfl rfl (fun hb K' hK => ?_) (fun hb => ?_) <;> (have hc := hb; try simp only [go_sem] at hc; simp only [go_sem, *]))) | (with_reducible (show Hold ..); first | refine Qh rfl ?_ | refine s_draw rfl Tryz.mixed (by kernel_rfl) ?_ | (refine s_cond rfl ⟨_, rfl, fun hb => ?_, fun hb => ?_⟩ <;> (have hc := hb; try simp only [go_sem] at hc)) | refine s_ret rfl ?_) | (with_reducible (show callA ..); first | (refine call_s (sb) ?_ ?_; (focus (simp only [go_sem, *]; done)); simp only [go_sem, *])) | ((with_reducible refine Qb ?_ ?_); focus kernel_rfl) | ((with_reducible refine And.intro ?_ ?_); focus omega) | (refine contA_of hK ?_; clear hK K'; simp only [go_sem, *]) | (simp only [thenA, inBlockA, go_sem, *]))
            all_goals first | contradiction | skip
            (refine ⟨[_, _], [], [], ⟨rfl, rfl, trivial⟩, ?_⟩; simp only [go_sem, *])
        · rw [drop_end (by omega), waysErr, if_pos rfl] at hQ
          repeat' (first | (with_reducible (show runOps ..); first | (refine Qr rfl ?_; try intro K' hK; try simp only [go_sem, *]) | (refine Qi rfl rfl rfl rfl (fun hb K' hK => ?_) (fun hb => ?_) <;> (have hc := hb; try simp only [go_sem] at hc; simp only [go_sem, *]))) | (with_reducible (show Hold ..); first | refine Qh rfl ?_ | refine s_draw rfl Tryz.mixed (by kernel_rfl) ?_ | (refine s_cond rfl ⟨_, rfl, fun hb => ?_, fun hb => ?_⟩ <;> (have hc := hb; try simp only [go_sem] at hc)) | refine s_ret rfl ?_) | ((with_reducible refine Qb ?_ ?_); focus kernel_rfl) | ((with_reducible refine And.intro ?_ ?_); focus omega) | (refine contA_of hK ?_; clear hK K'; simp only [go_sem, *]) | (simp only [thenA, inBlockA, go_sem, *]))
          refine ⟨_, (by omega), [some 0], [], _, _, _, (by (simp only [Weak, go_sem, List.map_append, List.map_set, *] <;> (try simp (disch := omega) only [wrap_succ]) <;> (try simp) <;> (try omega))), i + 1, rfl, (by omega), (by exact hQ), rfl, rfl, rfl⟩
      · rw [drop_end (by omega), stepsErr0, stepsErr, if_pos rfl] at hP
        by_cases hf4 : 4 < s.facts.length
        · have hf4i : (s.facts.length : Int) > 4 := by omega
          rw [factsErr0, if_pos hf4] at hP
          subst hP
          obtain ⟨rfl, rfl⟩ := hR.2 (by decide)
          clear hR
          repeat' (first | (with_reducible (show runOps ..); first | (refine Qr rfl ?_; try intro K' hK; try simp only [go_sem, *]) | (refine Qi rfl rfl rfl rfl (fun hb K' hK => ?_) (fun hb => ?_) <;> (have hc := hb; try simp only [go_sem] at hc; simp only [go_sem, *]))) | (with_reducible (show Hold ..); first | refine Qh rfl ?_ | refine s_draw rfl Tryz.mixed (by kernel_rfl) ?_ | (refine s_cond rfl ⟨_, rfl, fun hb => ?_, fun hb => ?_⟩ <;> (have hc := hb; try simp only [go_sem] at hc)) | refine s_ret rfl ?_) | ((with_reducible refine Qb ?_ ?_); focus kernel_rfl) | ((with_reducible refine And.intro ?_ ?_); focus omega) | (refine contA_of hK ?_; clear hK K'; simp only [go_sem, *]) | (simp only [thenA, inBlockA, go_sem, *]))
          all_goals first | contradiction | skip
          (refine ⟨[_, _], [], [], ⟨rfl, rfl, trivial⟩, ?_⟩; simp only [go_sem, *])
        have hf4i : ¬ (s.facts.length : Int) > 4 := by omega
        rw [factsErr0, if_neg hf4] at hP
        repeat' (first | (with_reducible (show runOps ..); first | (refine Qr rfl ?_; try intro K' hK; try simp only [go_sem, *]) | (refine Qi rfl rfl rfl rfl (fun hb K' hK => ?_) (fun hb => ?_) <;> (have hc := hb; try simp only [go_sem] at hc; simp only [go_sem, *]))) | (with_reducible (show Hold ..); first | refine Qh rfl ?_ | refine s_draw rfl Tryz.mixed (by kernel_rfl) ?_ | (refine s_cond rfl ⟨_, rfl, fun hb => ?_, fun hb => ?_⟩ <;> (have hc := hb; try simp only [go_sem] at hc)) | refine s_ret rfl ?_) | (with_reducible (show callA ..); first | (refine call_n (sp_houses' v) ?_ ?_ ?_ ?_; (focus (simp only [go_sem, *]; done)); (focus (first | (simp; done) | (simp [go_sem]; done))); (focus (first | (simp; done) | (simp [go_sem]; done))); simp only [go_sem, *])) | ((with_reducible refine Qb ?_ ?_); focus kernel_rfl) | ((with_reducible refine And.intro ?_ ?_); focus omega) | (refine contA_of hK ?_; clear hK K'; simp only [go_sem, *]) | (simp only [thenA, inBlockA, go_sem, *]))
        all_goals first | contradiction | skip
        clear hi2 hi
        refine s_loop rfl (fun zn zN zenv zAs => ∃ (k : Nat), zn = (s.facts.length) - k ∧ k ≤ (s.facts.length) ∧ (factsErr s.first (s.facts.drop k) = G) ∧ zN = 96 ∧ zenv = [(63, iV k), (62, iV s.facts.length), (61, .list (s.facts.map Fact.enc)), (9, .ptr 1 0), (1, .ptr 0 0)] ∧ zAs = [.box [.list (s.first.map encStreet), .list (s.steps.map encStep), .list (s.facts.map Fact.enc)], .box [.list (s.first.map encStreet), .list (s.steps.map encStep), .list (s.facts.map Fact.enc), .list ((housesOf s.first).map House.enc)]]) (s.facts.length) ⟨[some 0, some 2], [1], _, _, _, (by (simp only [Weak, go_sem, List.map_append, List.map_set, *] <;> (try simp (disch := omega) only [wrap_succ]) <;> (try simp) <;> (try omega))), 0, (by simp), (by simp), (by exact hP), rfl, rfl, rfl⟩ ?_; rintro _ _ _ _ ⟨k, rfl, hk, hQ, rfl, rfl, rfl⟩
        by_cases hk : k < s.facts.length
        · rw [factsErr_drop hk] at hQ
          have hcn := v.count
          have hln := v.len
          have hwp : IntKind.i64.wrap ((s.first.length : Int) - 1) = (s.first.length : Int) - 1 := wrap_i64 (by omega) (by omega)
          have s1 := sp_Contains_place (housesOf s.first) (s.facts.getD k default).src (by omega)
          have s2 := sp_between (s.facts.getD k default).dst.street 0 ((s.first.length : Int) - 1)
          have s3 := sp_validPlate (s.facts.getD k default).dst.plate
          by_cases q1 : (s.facts.getD k default).src ∈ housesOf s.first
          · by_cases q2 : betw (s.facts.getD k default).dst.street 0 ((s.first.length : Int) - 1) = true
            · rw [if_pos ⟨q1, q2⟩] at hQ
              have q1' : decide ((s.facts.getD k default).src ∈ housesOf s.first) = true := by simpa using q1
              rw [q1'] at s1
              rw [q2] at s2
              by_cases q3 : (s.facts.getD k default).dst.plate.ok = true
              · rw [if_pos q3] at hQ
                rw [q3] at s3
                clear q1 q1' q2 q3
                repeat' (first | (with_reducible (show runOps ..); first | (refine Qr rfl ?_; try intro K' hK; try simp only [go_sem, *]) | (refine Qi rfl rfl rfl rfl (fun hb K' hK => ?_) (fun hb => ?_) <;> (have hc := hb; try simp only [go_sem] at hc; simp only [go_sem, *]))) | (with_reducible (show Hold ..); first | refine Qh rfl ?_ | refine s_draw rfl Tryz.mixed (by kernel_rfl) ?_ | (refine s_cond rfl ⟨_, rfl, fun hb => ?_, fun hb => ?_⟩ <;> (have hc := hb; try simp only [go_sem] at hc)) | refine s_ret rfl ?_) | (with_reducible (show callA ..); first | ((first | refine call_s (s1) ?_ ?_ | refine call_s (s2) ?_ ?_ | refine call_s (s3) ?_ ?_); (focus (simp only [go_sem, *]; done)); simp only [go_sem, *])) | ((with_reducible refine Qb ?_ ?_); focus kernel_rfl) | ((with_reducible refine And.intro ?_ ?_); focus omega) | (refine contA_of hK ?_; clear hK K'; simp only [go_sem, *]) | (simp only [thenA, inBlockA, go_sem, *]))
                all_goals first | contradiction | skip
                refine ⟨_, (by omega), [some 0, some 1], [], _, _, _, (by (simp only [Weak, go_sem, List.map_append, List.map_set, *] <;> (try simp (disch := omega) only [wrap_succ]) <;> (try simp) <;> (try omega))), k + 1, rfl, (by omega), (by exact hQ), rfl, rfl, rfl⟩
              · rw [if_neg q3] at hQ
                rw [Bool.not_eq_true] at q3
                rw [q3] at s3
                clear q1 q1' q2 q3
                subst hQ
                obtain ⟨rfl, rfl⟩ := hR.2 (by decide)
                clear hR
                repeat' (first | (with_reducible (show runOps ..); first | (refine Qr rfl ?_; try intro K' hK; try simp only [go_sem, *]) | (refine Qi rfl rfl rfl rfl (fun hb K' hK => ?_) (fun hb => ?_) <;> (have hc := hb; try simp only [go_sem] at hc; simp only [go_sem, *]))) | (with_reducible (show Hold ..); first | refine Qh rfl ?_ | refine s_draw rfl Tryz.mixed (by kernel_rfl) ?_ | (refine s_cond rfl ⟨_, rfl, fun hb => ?_, fun hb => ?_⟩ <;> (have hc := hb; try simp only [go_sem] at hc)) | refine s_ret rfl ?_) | (with_reducible (show callA ..); first | ((first | refine call_s (s1) ?_ ?_ | refine call_s (s2) ?_ ?_ | refine call_s (s3) ?_ ?_); (focus (simp only [go_sem, *]; done)); simp only [go_sem, *])) | ((with_reducible refine Qb ?_ ?_); focus kernel_rfl) | ((with_reducible refine And.intro ?_ ?_); focus omega) | (refine contA_of hK ?_; clear hK K'; simp only [go_sem, *]) | (simp only [thenA, inBlockA, go_sem, *]))
                all_goals first | contradiction | skip
                (refine ⟨[_, _], [], [], ⟨rfl, rfl, trivial⟩, ?_⟩; simp only [go_sem, *])
            · rw [if_neg (fun h => q2 h.2)] at hQ
              have q1' : decide ((s.facts.getD k default).src ∈ housesOf s.first) = true := by simpa using q1
              rw [q1'] at s1
              rw [Bool.not_eq_true] at q2
              rw [q2] at s2
              clear q1 q1' q2
              subst hQ
              obtain ⟨rfl, rfl⟩ := hR.2 (by decide)
              clear hR
              repeat' (first | (with_reducible (show runOps ..); first | (refine Qr rfl ?_; try intro K' hK; try simp only [go_sem, *]) | (refine Qi rfl rfl rfl rfl (fun hb K' hK => ?_) (fun hb => ?_) <;> (have hc := hb; try simp only [go_sem] at hc; simp only [go_sem, *]))) | (with_reducible (show Hold ..); first | refine Qh rfl ?_ | refine s_draw rfl Tryz.mixed (by kernel_rfl) ?_ | (refine s_cond rfl ⟨_, rfl, fun hb => ?_, fun hb => ?_⟩ <;> (have hc := hb; try simp only [go_sem] at hc)) | refine s_ret rfl ?_) | (with_reducible (show callA ..); first | ((first | refine call_s (s1) ?_ ?_ | refine call_s (s2) ?_ ?_ | refine call_s (s3) ?_ ?_); (focus (simp only [go_sem, *]; done)); simp only [go_sem, *])) | ((with_reducible refine Qb ?_ ?_); focus kernel_rfl) | ((with_reducible refine And.intro ?_ ?_); focus omega) | (refine contA_of hK ?_; clear hK K'; simp only [go_sem, *]) | (simp only [thenA, inBlockA, go_sem, *]))
              all_goals first | contradiction | skip
              (refine ⟨[_, _], [], [], ⟨rfl, rfl, trivial⟩, ?_⟩; simp only [go_sem, *])
          · rw [if_neg (fun h => q1 h.1)] at hQ
            have q1' : decide ((s.facts.getD k default).src ∈ housesOf s.first) = false := by simpa using q1
            rw [q1'] at s1
            clear q1 q1'
            subst hQ
            obtain ⟨rfl, rfl⟩ := hR.2 (by decide)
            clear hR
            repeat' (first | (with_reducible (show runOps ..); first | (refine Qr rfl ?_; try intro K' hK; try simp only [go_sem, *]) | (refine Qi rfl rfl rfl rfl (fun hb K' hK => ?_) (fun hb => ?_) <;> (have hc := hb; try simp only [go_sem] at hc; simp only [go_sem, *]))) | (with_reducible (show Hold ..); first | refine Qh rfl ?_ | refine s_draw rfl Tryz.mixed (by kernel_rfl) ?_ | (refine s_cond rfl ⟨_, rfl, fun hb => ?_, fun hb => ?_⟩ <;> (have hc := hb; try simp only [go_sem] at hc)) | refine s_ret rfl ?_) | (with_reducible (show callA ..); first | ((first | refine call_s (s1) ?_ ?_ | refine call_s (s2) ?_ ?_ | refine call_s (s3) ?_ ?_); (focus (simp only [go_sem, *]; done)); simp only [go_sem, *])) | ((with_reducible refine Qb ?_ ?_); focus kernel_rfl) | ((with_reducible refine And.intro ?_ ?_); focus omega) | (refine contA_of hK ?_; clear hK K'; simp only [go_sem, *]) | (simp only [thenA, inBlockA, go_sem, *]))
            all_goals first | contradiction | skip
            (refine ⟨[_, _], [], [], ⟨rfl, rfl, trivial⟩, ?_⟩; simp only [go_sem, *])
        · rw [drop_end (by omega), factsErr] at hQ
          obtain ⟨rfl, rfl⟩ := hR.1 hQ.symm
          clear hR
          repeat' (first | (with_reducible (show runOps ..); first | (refine Qr rfl ?_; try intro K' hK; try simp only [go_sem, *]) | (refine Qi rfl rfl rfl rfl (fun hb K' hK => ?_) (fun hb => ?_) <;> (have hc := hb; try simp only [go_sem] at hc; simp only [go_sem, *]))) | (with_reducible (show Hold ..); first | refine Qh rfl ?_ | refine s_draw rfl Tryz.mixed (by kernel_rfl) ?_ | (refine s_cond rfl ⟨_, rfl, fun hb => ?_, fun hb => ?_⟩ <;> (have hc := hb; try simp only [go_sem] at hc)) | refine s_ret rfl ?_) | ((with_reducible refine Qb ?_ ?_); focus kernel_rfl) | ((with_reducible refine And.intro ?_ ?_); focus omega) | (refine contA_of hK ?_; clear hK K'; simp only [go_sem, *]) | (simp only [thenA, inBlockA, go_sem, *]))
          refine ⟨[_, _], [some 1], [], ⟨rfl, rfl, trivial⟩, ?_⟩
          simp only [go_sem, *]
  · have e : (check s.first == 0) = false := by simpa using hc0
    have e2 : (check s.first != 0) = true := by simpa using hc0
    rw [storyErr, if_neg hc0] at hG
    obtain ⟨rfl, rfl⟩ := hR.2 (by rw [← hG]; exact hc0)
    subst hG
    clear hR hc0
    generalize check s.first = k at *
    refine spec_body Tryz.func138 rfl (fun E hE => ?_); simp only [go_sem, Tryz.ntmps138]
    repeat' (first | (with_reducible (show runOps ..); first | (refine Qr rfl ?_; try intro K' hK; try simp only [go_sem, *]) | (refine Qi rfl rfl rfl rfl (fun hb K' hK => ?_) (fun hb => ?_) <;> (have hc := hb; try simp only [go_sem] at hc; simp only [go_sem, *]))) | (with_reducible (show Hold ..); first | refine Qh rfl ?_ | refine s_draw rfl Tryz.mixed (by kernel_rfl) ?_ | (refine s_cond rfl ⟨_, rfl, fun hb => ?_, fun hb => ?_⟩ <;> (have hc := hb; try simp only [go_sem] at hc)) | refine s_ret rfl ?_) | (with_reducible (show callA ..); first | (refine call_s (sc) ?_ ?_; (focus (simp only [go_sem, *]; done)); simp only [go_sem, *])) | ((with_reducible refine Qb ?_ ?_); focus kernel_rfl) | ((with_reducible refine And.intro ?_ ?_); focus omega) | (refine contA_of hK ?_; clear hK K'; simp only [go_sem, *]) | (simp only [thenA, inBlockA, go_sem, *]))
    all_goals first | contradiction | skip
    all_goals (refine ⟨[_, _], [], [], ⟨rfl, rfl, trivial⟩, ?_⟩; simp only [go_sem, *])
end Go.Abs

