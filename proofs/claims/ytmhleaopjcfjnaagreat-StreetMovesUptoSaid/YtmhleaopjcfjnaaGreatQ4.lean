/-
  WHAT THE PROOF STANDS ON, PART 4: contracts of the program's functions and the logic that they are proved in. No condition.
-/
import Derived.Test.YtmhleaopjcfjnaaGreatQ3
set_option linter.unusedVariables false
set_option linter.unusedSimpArgs false
set_option linter.unusedSectionVars false
namespace Go.Abs
open Go Go.Proofs
set_option maxRecDepth 10000
def AfP2 (g : House → List House) (hs rem : List House) (i : Nat) (b0 b1 : List Plate) : Prop := rem.length + i = hs.length ∧ (∀ h, h ∈ rem → h ∈ hs) ∧ Bk b0 0 (rem.flatMap g) (hs.flatMap g) ∧ Bk b1 1 (rem.flatMap g) (hs.flatMap g)
def AfQ2 (rest tot : List House) (b0 b1 : List Plate) : Prop := Bk b0 0 rest tot ∧ Bk b1 1 rest tot
theorem sp_after2 (hs : List House) (g : House → List House) (hst : ∀ z, z ∈ hs.flatMap g → 0 ≤ z.street ∧ z.street < 2) (hnd : (hs.flatMap g).Nodup) (hlen : ∀ s : Nat, s < 2 → ((hs.flatMap g).filter (fun h => h.street == (s : Int))).length ≤ 12) (hsl : hs.length ≤ 1000) (hgl : ∀ h, h ∈ hs → (g h).length ≤ 1000) :
  Spec Tryz.prog 89 [.fmap (hs.map House.key) (hs.map (MapV g)), iV 2] [] (encPlan (laid (hs.flatMap g) 2)) [] := by
 have rz : List.replicate 2 (AV.raw (Value.slice none 0 0)) = [AV.raw (Value.slice none 0 0), AV.raw (Value.slice none 0 0)] := rfl
 have hmt : (mapT Tryz.prog 121).isSome = true := by kernel_rfl
 have hv1 : IntKind.i64.wrap 1 = (1 : Int) := wrap_i64 (by omega) (by omega)
 have hv2 : IntKind.i64.wrap 2 = (2 : Int) := wrap_i64 (by omega) (by omega)
 have hv3 : IntKind.i64.wrap 3 = (3 : Int) := wrap_i64 (by omega) (by omega)
 refine spec_body Tryz.func89 rfl (fun E hE => ?_); simp only [go_sem, Tryz.ntmps89]
 repeat' (first | (with_reducible (show runOps ..); first | (refine Qr rfl ?_; try intro K' hK; try simp only [go_sem, *])) | (with_reducible (show Hold ..); first | refine Qh rfl ?_ | refine s_draw rfl Tryz.mixed (by kernel_rfl) ?_ | (refine s_cond rfl ⟨_, rfl, fun hb => ?_, fun hb => ?_⟩ <;> (have hc := hb; try simp only [go_sem] at hc)) | refine s_ret rfl ?_) | ((with_reducible refine Qb ?_ ?_); focus kernel_rfl) | ((with_reducible refine And.intro ?_ ?_); focus omega) | (refine contA_of hK ?_; clear hK K'; simp only [go_sem, *]) | (simp only [thenA, inBlockA, go_sem, *]))
 refine s_loop rfl (fun zn zN zenv zAs => ∃ (i : Nat) (cur : Option (Value × AV)) (rem : List House) (b0 : List Plate) (b1 : List Plate), zn = (hs.length) - i ∧ i ≤ (hs.length) ∧ (AfP2 g hs rem i b0 b1) ∧ zN = 54 ∧ zenv = [(4, .ptr 0 0), (5, .ptr 1 0), (16, .ptr 5 0)] ∧ zAs = [.box [nilV], .box [.own 2 1 0 2], .box [.own 3 2 0 b0.length, .own 4 2 0 b1.length], .row 2 (b0.map Plate.enc), .row 2 (b1.map Plate.enc), .iter cur (rem.map House.key) (rem.map (MapV g))]) (hs.length) ⟨[some 0, some 2, some 1, none, none, some 3], [], _, _, _, (by (simp only [Weak, go_sem, List.map_append, List.map_set, *] <;> (try simp (disch := omega) only [wrap_succ]) <;> (try simp) <;> (try omega))), 0, none, hs, [], [], (by simp), (by simp), (by exact ⟨by omega, fun h hh => hh, Bk.start _ _, Bk.start _ _⟩), rfl, rfl, rfl⟩ ?_; rintro _ _ _ _ ⟨i, cur, rem, b0, b1, rfl, hi, hP, rfl, rfl, rfl⟩
 refine s_seq rfl ?_
 refine s_next (o := 5) rfl rfl rfl rfl rfl rfl rfl cur (rem.map House.key) (rem.map (MapV g)) (by simp only [go_sem]) (by simp only [go_sem]) (show (17 : Nat) < 54 by decide) (show (18 : Nat) < 54 by decide) (fun hk _ => ?_) (fun r hr1 hr2 => ?_)
 ·simp only [go_sem]
  repeat' (first | (with_reducible (show runOps ..); first | (refine Qr rfl ?_; try intro K' hK; try simp only [go_sem, *])) | (with_reducible (show Hold ..); first | refine Qh rfl ?_ | refine s_draw rfl Tryz.mixed (by kernel_rfl) ?_ | (refine s_cond rfl ⟨_, rfl, fun hb => ?_, fun hb => ?_⟩ <;> (have hc := hb; try simp only [go_sem] at hc)) | refine s_ret rfl ?_) | ((with_reducible refine Qb ?_ ?_); focus kernel_rfl) | ((with_reducible refine And.intro ?_ ?_); focus omega) | (refine contA_of hK ?_; clear hK K'; simp only [go_sem, *]) | (simp only [thenA, inBlockA, go_sem, *]))
  obtain rfl : rem = [] := by simpa using hk
  obtain ⟨hlen0, hsub, p0, p1⟩ := hP
  rw [List.flatMap_nil] at p0 p1
  have hl0 := Nat.le_trans p0.len (hlen 0 (by omega))
  have hl1 := Nat.le_trans p1.len (hlen 1 (by omega))
  refine s_loop rfl (fun zn zN zenv zAs => ∃ (k : Nat), zn = (2) - k ∧ k ≤ (2) ∧ (NoP k) ∧ zN = 54 ∧ zenv = [(46, iV k), (45, iV 2), (44, .own 2 1 0 2), (4, .ptr 0 0), (5, .ptr 1 0)] ∧ zAs = [.box [nilV], .box [.own 2 1 0 2], .box [.own 3 2 0 b0.length, .own 4 2 0 b1.length], .row 2 ((rowS k 0 b0).map Plate.enc), .row 2 ((rowS k 1 b1).map Plate.enc)]) (2) ⟨[some 0, some 1, some 2, some 3, some 4], [], _, _, _, (by (simp only [Weak, go_sem, List.map_append, List.map_set, *] <;> (try simp (disch := omega) only [wrap_succ]) <;> (try simp) <;> (try omega))), 0, (by simp), (by simp), (by trivial), rfl, rfl, rfl⟩ ?_; rintro _ _ _ _ ⟨k, rfl, hk, hK, rfl, rfl, rfl⟩
  rcases (by omega : k = 0 ∨ k = 1 ∨ k = 2) with rfl | rfl | rfl
  ·repeat' (first | (with_reducible (show runOps ..); first | (refine Qr rfl ?_; try intro K' hK; try simp only [go_sem, *])) | (with_reducible (show Hold ..); first | refine Qh rfl ?_ | refine s_draw rfl Tryz.mixed (by kernel_rfl) ?_ | (refine s_cond rfl ⟨_, rfl, fun hb => ?_, fun hb => ?_⟩ <;> (have hc := hb; try simp only [go_sem] at hc)) | refine s_ret rfl ?_) | ((with_reducible refine Qb ?_ ?_); focus kernel_rfl) | ((with_reducible refine And.intro ?_ ?_); focus omega) | (refine contA_of hK ?_; clear hK K'; simp only [go_sem, *]) | (simp only [thenA, inBlockA, go_sem, *]))
   refine call_of [3] [] (sp_SortFunc_Plate (by kernel_rfl) sp_comparePlates b0 (by omega)) (by simp) (by simp only [go_sem, *]) (by simp only [go_sem, AObj.live, *]) (by simp) (.inl rfl) (by simp [go_sem]) (by simp) ?_
   simp only [go_sem, AObj.ren, *]
   repeat' (first | (with_reducible (show runOps ..); first | (refine Qr rfl ?_; try intro K' hK; try simp only [go_sem, *])) | (with_reducible (show Hold ..); first | refine Qh rfl ?_ | refine s_draw rfl Tryz.mixed (by kernel_rfl) ?_ | (refine s_cond rfl ⟨_, rfl, fun hb => ?_, fun hb => ?_⟩ <;> (have hc := hb; try simp only [go_sem] at hc)) | refine s_ret rfl ?_) | ((with_reducible refine Qb ?_ ?_); focus kernel_rfl) | ((with_reducible refine And.intro ?_ ?_); focus omega) | (refine contA_of hK ?_; clear hK K'; simp only [go_sem, *]) | (simp only [thenA, inBlockA, go_sem, *]))
   refine ⟨_, (by omega), [some 0, some 1, some 2, some 3, some 4], [], _, _, _, (by (simp only [Weak, go_sem, List.map_append, List.map_set, *] <;> (try simp (disch := omega) only [wrap_succ]) <;> (try simp) <;> (try omega))), 0 + 1, rfl, (by omega), (by trivial), rfl, rfl, rfl⟩
  ·repeat' (first | (with_reducible (show runOps ..); first | (refine Qr rfl ?_; try intro K' hK; try simp only [go_sem, *])) | (with_reducible (show Hold ..); first | refine Qh rfl ?_ | refine s_draw rfl Tryz.mixed (by kernel_rfl) ?_ | (refine s_cond rfl ⟨_, rfl, fun hb => ?_, fun hb => ?_⟩ <;> (have hc := hb; try simp only [go_sem] at hc)) | refine s_ret rfl ?_) | ((with_reducible refine Qb ?_ ?_); focus kernel_rfl) | ((with_reducible refine And.intro ?_ ?_); focus omega) | (refine contA_of hK ?_; clear hK K'; simp only [go_sem, *]) | (simp only [thenA, inBlockA, go_sem, *]))
   refine call_of [4] [] (sp_SortFunc_Plate (by kernel_rfl) sp_comparePlates b1 (by omega)) (by simp) (by simp only [go_sem, *]) (by simp only [go_sem, AObj.live, *]) (by simp) (.inl rfl) (by simp [go_sem]) (by simp) ?_
   simp only [go_sem, AObj.ren, *]
   repeat' (first | (with_reducible (show runOps ..); first | (refine Qr rfl ?_; try intro K' hK; try simp only [go_sem, *])) | (with_reducible (show Hold ..); first | refine Qh rfl ?_ | refine s_draw rfl Tryz.mixed (by kernel_rfl) ?_ | (refine s_cond rfl ⟨_, rfl, fun hb => ?_, fun hb => ?_⟩ <;> (have hc := hb; try simp only [go_sem] at hc)) | refine s_ret rfl ?_) | ((with_reducible refine Qb ?_ ?_); focus kernel_rfl) | ((with_reducible refine And.intro ?_ ?_); focus omega) | (refine contA_of hK ?_; clear hK K'; simp only [go_sem, *]) | (simp only [thenA, inBlockA, go_sem, *]))
   refine ⟨_, (by omega), [some 0, some 1, some 2, some 3, some 4], [], _, _, _, (by (simp only [Weak, go_sem, List.map_append, List.map_set, *] <;> (try simp (disch := omega) only [wrap_succ]) <;> (try simp) <;> (try omega))), 1 + 1, rfl, (by omega), (by trivial), rfl, rfl, rfl⟩
  ·repeat' (first | (with_reducible (show runOps ..); first | (refine Qr rfl ?_; try intro K' hK; try simp only [go_sem, *])) | (with_reducible (show Hold ..); first | refine Qh rfl ?_ | refine s_draw rfl Tryz.mixed (by kernel_rfl) ?_ | (refine s_cond rfl ⟨_, rfl, fun hb => ?_, fun hb => ?_⟩ <;> (have hc := hb; try simp only [go_sem] at hc)) | refine s_ret rfl ?_) | ((with_reducible refine Qb ?_ ?_); focus kernel_rfl) | ((with_reducible refine And.intro ?_ ?_); focus omega) | (refine contA_of hK ?_; clear hK K'; simp only [go_sem, *]) | (simp only [thenA, inBlockA, go_sem, *]))
   have e : laid (hs.flatMap g) 2 = [isort cmpP b0, isort cmpP b1] := by
    rw [p0.fin hnd (n := 2) (by omega), p1.fin hnd (n := 2) (by omega)]; simp [laid, rowAt, List.range_succ]
   refine ⟨[.agg [.own 2 1 0 2]], [], [2, 3, 4], ⟨by simp only [resOne, go_sem], trivial⟩, ?_⟩
   simp only [go_sem, e, *]
   exact .inr (by simp)
 ·obtain ⟨hr, hrk, hrx⟩ : ∃ hr : r < rem.length, (rem.map House.key)[r] = (rem[r]).key ∧ (rem.map (MapV g))[r] = .list ((g rem[r]).map House.enc) := ⟨by simpa using hr1, by simp, by simp [MapV]⟩
  rw [hrk, hrx, ← map_eraseIdx', ← map_eraseIdx']
  generalize (rem[r]).key = kk at *
  clear hrk
  simp only [go_sem]
  repeat' (first | (with_reducible (show runOps ..); first | (refine Qr rfl ?_; try intro K' hK; try simp only [go_sem, *])) | (with_reducible (show Hold ..); first | refine Qh rfl ?_ | refine s_draw rfl Tryz.mixed (by kernel_rfl) ?_ | (refine s_cond rfl ⟨_, rfl, fun hb => ?_, fun hb => ?_⟩ <;> (have hc := hb; try simp only [go_sem] at hc)) | refine s_ret rfl ?_) | ((with_reducible refine Qb ?_ ?_); focus kernel_rfl) | ((with_reducible refine And.intro ?_ ?_); focus omega) | (refine contA_of hK ?_; clear hK K'; simp only [go_sem, *]) | (simp only [thenA, inBlockA, go_sem, *]))
  obtain ⟨hlen0, hsub, p0, p1⟩ := hP
  have p0 := p0.pick r hr
  have p1 := p1.pick r hr
  have hll : (g rem[r]).length ≤ 1000 := hgl _ (hsub _ (List.getElem_mem hr))
  have hsl2 : ∀ z, z ∈ g rem[r] → 0 ≤ z.street ∧ z.street < 2 := fun z hz => hst z (List.mem_flatMap.2 ⟨_, hsub _ (List.getElem_mem hr), hz⟩)
  clear hrx
  generalize g rem[r] = l at *
  refine s_loop rfl (fun zn zN zenv zAs => ∃ (j : Nat) (b0 : List Plate) (b1 : List Plate), zn = (l.length) - j ∧ j ≤ (l.length) ∧ (AfQ2 (l.drop j ++ (rem.eraseIdx r).flatMap g) (hs.flatMap g) b0 b1) ∧ zN = 54 ∧ zenv = [(23, iV j), (22, iV l.length), (21, encHouses l), (4, .ptr 0 0), (5, .ptr 1 0), (16, .ptr 5 0)] ∧ zAs = [.box [nilV], .box [.own 2 1 0 2], .box [.own 3 2 0 b0.length, .own 4 2 0 b1.length], .row 2 (b0.map Plate.enc), .row 2 (b1.map Plate.enc), .iter (some (kk, .list (l.map House.enc))) ((rem.eraseIdx r).map House.key) ((rem.eraseIdx r).map (MapV g))]) (l.length) ⟨[some 0, some 1, some 2, some 3, some 4, some 5], [], _, _, _, (by (simp only [Weak, go_sem, List.map_append, List.map_set, *] <;> (try simp (disch := omega) only [wrap_succ]) <;> (try simp) <;> (try omega))), 0, b0, b1, (by simp), (by simp), (by exact ⟨p0, p1⟩), rfl, rfl, rfl⟩ ?_; rintro _ _ _ _ ⟨j, b0, b1, rfl, hj, hQ, rfl, rfl, rfl⟩
  by_cases hj : j < l.length
  ·have hz := hsl2 _ (getD_mem hj)
   have hdj := drop_cons hj
   rw [hdj, List.cons_append] at hQ
   obtain ⟨q0, q1⟩ := hQ
   have hl0 := Nat.le_trans q0.len (hlen 0 (by omega))
   have hl1 := Nat.le_trans q1.len (hlen 1 (by omega))
   clear hdj
   rcases (by omega : (l.getD j default).street = 0 ∨ (l.getD j default).street = 1) with hs0 | hs0
   ·repeat' (first | (with_reducible (show runOps ..); first | (refine Qr rfl ?_; try intro K' hK; try simp only [go_sem, *])) | (with_reducible (show Hold ..); first | refine Qh rfl ?_ | refine s_draw rfl Tryz.mixed (by kernel_rfl) ?_ | (refine s_cond rfl ⟨_, rfl, fun hb => ?_, fun hb => ?_⟩ <;> (have hc := hb; try simp only [go_sem] at hc)) | refine s_ret rfl ?_) | ((with_reducible refine Qb ?_ ?_); focus kernel_rfl) | ((with_reducible refine And.intro ?_ ?_); focus omega) | (refine contA_of hK ?_; clear hK K'; simp only [go_sem, *]) | (simp only [thenA, inBlockA, go_sem, *]))
    refine ⟨_, (by omega), [some 0, some 1, some 2, some 8, some 4, some 5], [], _, _, _, (by (simp only [Weak, go_sem, List.map_append, List.map_set, *] <;> (try simp (disch := omega) only [wrap_succ]) <;> (try simp) <;> (try omega))), j + 1, b0 ++ [(l.getD j default).plate], b1, rfl, (by omega), (by exact ⟨q0.step_in (by rw [hs0]; rfl), q1.step_out (by rw [hs0]; decide)⟩), rfl, rfl, rfl⟩
   ·repeat' (first | (with_reducible (show runOps ..); first | (refine Qr rfl ?_; try intro K' hK; try simp only [go_sem, *])) | (with_reducible (show Hold ..); first | refine Qh rfl ?_ | refine s_draw rfl Tryz.mixed (by kernel_rfl) ?_ | (refine s_cond rfl ⟨_, rfl, fun hb => ?_, fun hb => ?_⟩ <;> (have hc := hb; try simp only [go_sem] at hc)) | refine s_ret rfl ?_) | ((with_reducible refine Qb ?_ ?_); focus kernel_rfl) | ((with_reducible refine And.intro ?_ ?_); focus omega) | (refine contA_of hK ?_; clear hK K'; simp only [go_sem, *]) | (simp only [thenA, inBlockA, go_sem, *]))
    refine ⟨_, (by omega), [some 0, some 1, some 2, some 3, some 8, some 5], [], _, _, _, (by (simp only [Weak, go_sem, List.map_append, List.map_set, *] <;> (try simp (disch := omega) only [wrap_succ]) <;> (try simp) <;> (try omega))), j + 1, b0, b1 ++ [(l.getD j default).plate], rfl, (by omega), (by exact ⟨q0.step_out (by rw [hs0]; decide), q1.step_in (by rw [hs0]; rfl)⟩), rfl, rfl, rfl⟩
  ·repeat' (first | (with_reducible (show runOps ..); first | (refine Qr rfl ?_; try intro K' hK; try simp only [go_sem, *])) | (with_reducible (show Hold ..); first | refine Qh rfl ?_ | refine s_draw rfl Tryz.mixed (by kernel_rfl) ?_ | (refine s_cond rfl ⟨_, rfl, fun hb => ?_, fun hb => ?_⟩ <;> (have hc := hb; try simp only [go_sem] at hc)) | refine s_ret rfl ?_) | ((with_reducible refine Qb ?_ ?_); focus kernel_rfl) | ((with_reducible refine And.intro ?_ ?_); focus omega) | (refine contA_of hK ?_; clear hK K'; simp only [go_sem, *]) | (simp only [thenA, inBlockA, go_sem, *]))
   rw [drop_end (by omega), List.nil_append] at hQ
   refine ⟨_, (by omega), [some 0, some 1, some 2, some 3, some 4, some 5], [], _, _, _, (by (simp only [Weak, go_sem, List.map_append, List.map_set, *] <;> (try simp (disch := omega) only [wrap_succ]) <;> (try simp) <;> (try omega))), i + 1, (some (kk, .list (l.map House.enc))), rem.eraseIdx r, b0, b1, rfl, (by omega), (by exact ⟨by rw [List.length_eraseIdx_of_lt hr]; omega, fun h hh => hsub h ((List.eraseIdx_sublist _ _).subset hh), hQ⟩), rfl, rfl, rfl⟩
end Go.Abs

namespace Go.Abs
open Go Go.Proofs
set_option maxRecDepth 10000
def AfP3 (g : House → List House) (hs rem : List House) (i : Nat) (b0 b1 b2 : List Plate) : Prop := rem.length + i = hs.length ∧ (∀ h, h ∈ rem → h ∈ hs) ∧ Bk b0 0 (rem.flatMap g) (hs.flatMap g) ∧ Bk b1 1 (rem.flatMap g) (hs.flatMap g) ∧ Bk b2 2 (rem.flatMap g) (hs.flatMap g)
def AfQ3 (rest tot : List House) (b0 b1 b2 : List Plate) : Prop := Bk b0 0 rest tot ∧ Bk b1 1 rest tot ∧ Bk b2 2 rest tot
theorem sp_after3 (hs : List House) (g : House → List House) (hst : ∀ z, z ∈ hs.flatMap g → 0 ≤ z.street ∧ z.street < 3) (hnd : (hs.flatMap g).Nodup) (hlen : ∀ s : Nat, s < 3 → ((hs.flatMap g).filter (fun h => h.street == (s : Int))).length ≤ 12) (hsl : hs.length ≤ 1000) (hgl : ∀ h, h ∈ hs → (g h).length ≤ 1000) :
  Spec Tryz.prog 89 [.fmap (hs.map House.key) (hs.map (MapV g)), iV 3] [] (encPlan (laid (hs.flatMap g) 3)) [] := by
 have rz : List.replicate 3 (AV.raw (Value.slice none 0 0)) = [AV.raw (Value.slice none 0 0), AV.raw (Value.slice none 0 0), AV.raw (Value.slice none 0 0)] := rfl
 have hmt : (mapT Tryz.prog 121).isSome = true := by kernel_rfl
 have hv1 : IntKind.i64.wrap 1 = (1 : Int) := wrap_i64 (by omega) (by omega)
 have hv2 : IntKind.i64.wrap 2 = (2 : Int) := wrap_i64 (by omega) (by omega)
 have hv3 : IntKind.i64.wrap 3 = (3 : Int) := wrap_i64 (by omega) (by omega)
 refine spec_body Tryz.func89 rfl (fun E hE => ?_); simp only [go_sem, Tryz.ntmps89]
 repeat' (first | (with_reducible (show runOps ..); first | (refine Qr rfl ?_; try intro K' hK; try simp only [go_sem, *])) | (with_reducible (show Hold ..); first | refine Qh rfl ?_ | refine s_draw rfl Tryz.mixed (by kernel_rfl) ?_ | (refine s_cond rfl ⟨_, rfl, fun hb => ?_, fun hb => ?_⟩ <;> (have hc := hb; try simp only [go_sem] at hc)) | refine s_ret rfl ?_) | ((with_reducible refine Qb ?_ ?_); focus kernel_rfl) | ((with_reducible refine And.intro ?_ ?_); focus omega) | (refine contA_of hK ?_; clear hK K'; simp only [go_sem, *]) | (simp only [thenA, inBlockA, go_sem, *]))
 refine s_loop rfl (fun zn zN zenv zAs => ∃ (i : Nat) (cur : Option (Value × AV)) (rem : List House) (b0 : List Plate) (b1 : List Plate) (b2 : List Plate), zn = (hs.length) - i ∧ i ≤ (hs.length) ∧ (AfP3 g hs rem i b0 b1 b2) ∧ zN = 54 ∧ zenv = [(4, .ptr 0 0), (5, .ptr 1 0), (16, .ptr 6 0)] ∧ zAs = [.box [nilV], .box [.own 2 1 0 3], .box [.own 3 2 0 b0.length, .own 4 2 0 b1.length, .own 5 2 0 b2.length], .row 2 (b0.map Plate.enc), .row 2 (b1.map Plate.enc), .row 2 (b2.map Plate.enc), .iter cur (rem.map House.key) (rem.map (MapV g))]) (hs.length) ⟨[some 0, some 2, some 1, none, none, none, some 3], [], _, _, _, (by (simp only [Weak, go_sem, List.map_append, List.map_set, *] <;> (try simp (disch := omega) only [wrap_succ]) <;> (try simp) <;> (try omega))), 0, none, hs, [], [], [], (by simp), (by simp), (by exact ⟨by omega, fun h hh => hh, Bk.start _ _, Bk.start _ _, Bk.start _ _⟩), rfl, rfl, rfl⟩ ?_; rintro _ _ _ _ ⟨i, cur, rem, b0, b1, b2, rfl, hi, hP, rfl, rfl, rfl⟩
 refine s_seq rfl ?_
 refine s_next (o := 6) rfl rfl rfl rfl rfl rfl rfl cur (rem.map House.key) (rem.map (MapV g)) (by simp only [go_sem]) (by simp only [go_sem]) (show (17 : Nat) < 54 by decide) (show (18 : Nat) < 54 by decide) (fun hk _ => ?_) (fun r hr1 hr2 => ?_)
 ·simp only [go_sem]
  repeat' (first | (with_reducible (show runOps ..); first | (refine Qr rfl ?_; try intro K' hK; try simp only [go_sem, *])) | (with_reducible (show Hold ..); first | refine Qh rfl ?_ | refine s_draw rfl Tryz.mixed (by kernel_rfl) ?_ | (refine s_cond rfl ⟨_, rfl, fun hb => ?_, fun hb => ?_⟩ <;> (have hc := hb; try simp only [go_sem] at hc)) | refine s_ret rfl ?_) | ((with_reducible refine Qb ?_ ?_); focus kernel_rfl) | ((with_reducible refine And.intro ?_ ?_); focus omega) | (refine contA_of hK ?_; clear hK K'; simp only [go_sem, *]) | (simp only [thenA, inBlockA, go_sem, *]))
  obtain rfl : rem = [] := by simpa using hk
  obtain ⟨hlen0, hsub, p0, p1, p2⟩ := hP
  rw [List.flatMap_nil] at p0 p1 p2
  have hl0 := Nat.le_trans p0.len (hlen 0 (by omega))
  have hl1 := Nat.le_trans p1.len (hlen 1 (by omega))
  have hl2 := Nat.le_trans p2.len (hlen 2 (by omega))
  refine s_loop rfl (fun zn zN zenv zAs => ∃ (k : Nat), zn = (3) - k ∧ k ≤ (3) ∧ (NoP k) ∧ zN = 54 ∧ zenv = [(46, iV k), (45, iV 3), (44, .own 2 1 0 3), (4, .ptr 0 0), (5, .ptr 1 0)] ∧ zAs = [.box [nilV], .box [.own 2 1 0 3], .box [.own 3 2 0 b0.length, .own 4 2 0 b1.length, .own 5 2 0 b2.length], .row 2 ((rowS k 0 b0).map Plate.enc), .row 2 ((rowS k 1 b1).map Plate.enc), .row 2 ((rowS k 2 b2).map Plate.enc)]) (3) ⟨[some 0, some 1, some 2, some 3, some 4, some 5], [], _, _, _, (by (simp only [Weak, go_sem, List.map_append, List.map_set, *] <;> (try simp (disch := omega) only [wrap_succ]) <;> (try simp) <;> (try omega))), 0, (by simp), (by simp), (by trivial), rfl, rfl, rfl⟩ ?_; rintro _ _ _ _ ⟨k, rfl, hk, hK, rfl, rfl, rfl⟩
  rcases (by omega : k = 0 ∨ k = 1 ∨ k = 2 ∨ k = 3) with rfl | rfl | rfl | rfl
  ·repeat' (first | (with_reducible (show runOps ..); first | (refine Qr rfl ?_; try intro K' hK; try simp only [go_sem, *])) | (with_reducible (show Hold ..); first | refine Qh rfl ?_ | refine s_draw rfl Tryz.mixed (by kernel_rfl) ?_ | (refine s_cond rfl ⟨_, rfl, fun hb => ?_, fun hb => ?_⟩ <;> (have hc := hb; try simp only [go_sem] at hc)) | refine s_ret rfl ?_) | ((with_reducible refine Qb ?_ ?_); focus kernel_rfl) | ((with_reducible refine And.intro ?_ ?_); focus omega) | (refine contA_of hK ?_; clear hK K'; simp only [go_sem, *]) | (simp only [thenA, inBlockA, go_sem, *]))
   refine call_of [3] [] (sp_SortFunc_Plate (by kernel_rfl) sp_comparePlates b0 (by omega)) (by simp) (by simp only [go_sem, *]) (by simp only [go_sem, AObj.live, *]) (by simp) (.inl rfl) (by simp [go_sem]) (by simp) ?_
   simp only [go_sem, AObj.ren, *]
   repeat' (first | (with_reducible (show runOps ..); first | (refine Qr rfl ?_; try intro K' hK; try simp only [go_sem, *])) | (with_reducible (show Hold ..); first | refine Qh rfl ?_ | refine s_draw rfl Tryz.mixed (by kernel_rfl) ?_ | (refine s_cond rfl ⟨_, rfl, fun hb => ?_, fun hb => ?_⟩ <;> (have hc := hb; try simp only [go_sem] at hc)) | refine s_ret rfl ?_) | ((with_reducible refine Qb ?_ ?_); focus kernel_rfl) | ((with_reducible refine And.intro ?_ ?_); focus omega) | (refine contA_of hK ?_; clear hK K'; simp only [go_sem, *]) | (simp only [thenA, inBlockA, go_sem, *]))
   refine ⟨_, (by omega), [some 0, some 1, some 2, some 3, some 4, some 5], [], _, _, _, (by (simp only [Weak, go_sem, List.map_append, List.map_set, *] <;> (try simp (disch := omega) only [wrap_succ]) <;> (try simp) <;> (try omega))), 0 + 1, rfl, (by omega), (by trivial), rfl, rfl, rfl⟩
  ·repeat' (first | (with_reducible (show runOps ..); first | (refine Qr rfl ?_; try intro K' hK; try simp only [go_sem, *])) | (with_reducible (show Hold ..); first | refine Qh rfl ?_ | refine s_draw rfl Tryz.mixed (by kernel_rfl) ?_ | (refine s_cond rfl ⟨_, rfl, fun hb => ?_, fun hb => ?_⟩ <;> (have hc := hb; try simp only [go_sem] at hc)) | refine s_ret rfl ?_) | ((with_reducible refine Qb ?_ ?_); focus kernel_rfl) | ((with_reducible refine And.intro ?_ ?_); focus omega) | (refine contA_of hK ?_; clear hK K'; simp only [go_sem, *]) | (simp only [thenA, inBlockA, go_sem, *]))
   refine call_of [4] [] (sp_SortFunc_Plate (by kernel_rfl) sp_comparePlates b1 (by omega)) (by simp) (by simp only [go_sem, *]) (by simp only [go_sem, AObj.live, *]) (by simp) (.inl rfl) (by simp [go_sem]) (by simp) ?_
   simp only [go_sem, AObj.ren, *]
   repeat' (first | (with_reducible (show runOps ..); first | (refine Qr rfl ?_; try intro K' hK; try simp only [go_sem, *])) | (with_reducible (show Hold ..); first | refine Qh rfl ?_ | refine s_draw rfl Tryz.mixed (by kernel_rfl) ?_ | (refine s_cond rfl ⟨_, rfl, fun hb => ?_, fun hb => ?_⟩ <;> (have hc := hb; try simp only [go_sem] at hc)) | refine s_ret rfl ?_) | ((with_reducible refine Qb ?_ ?_); focus kernel_rfl) | ((with_reducible refine And.intro ?_ ?_); focus omega) | (refine contA_of hK ?_; clear hK K'; simp only [go_sem, *]) | (simp only [thenA, inBlockA, go_sem, *]))
   refine ⟨_, (by omega), [some 0, some 1, some 2, some 3, some 4, some 5], [], _, _, _, (by (simp only [Weak, go_sem, List.map_append, List.map_set, *] <;> (try simp (disch := omega) only [wrap_succ]) <;> (try simp) <;> (try omega))), 1 + 1, rfl, (by omega), (by trivial), rfl, rfl, rfl⟩
  ·repeat' (first | (with_reducible (show runOps ..); first | (refine Qr rfl ?_; try intro K' hK; try simp only [go_sem, *])) | (with_reducible (show Hold ..); first | refine Qh rfl ?_ | refine s_draw rfl Tryz.mixed (by kernel_rfl) ?_ | (refine s_cond rfl ⟨_, rfl, fun hb => ?_, fun hb => ?_⟩ <;> (have hc := hb; try simp only [go_sem] at hc)) | refine s_ret rfl ?_) | ((with_reducible refine Qb ?_ ?_); focus kernel_rfl) | ((with_reducible refine And.intro ?_ ?_); focus omega) | (refine contA_of hK ?_; clear hK K'; simp only [go_sem, *]) | (simp only [thenA, inBlockA, go_sem, *]))
   refine call_of [5] [] (sp_SortFunc_Plate (by kernel_rfl) sp_comparePlates b2 (by omega)) (by simp) (by simp only [go_sem, *]) (by simp only [go_sem, AObj.live, *]) (by simp) (.inl rfl) (by simp [go_sem]) (by simp) ?_
   simp only [go_sem, AObj.ren, *]
   repeat' (first | (with_reducible (show runOps ..); first | (refine Qr rfl ?_; try intro K' hK; try simp only [go_sem, *])) | (with_reducible (show Hold ..); first | refine Qh rfl ?_ | refine s_draw rfl Tryz.mixed (by kernel_rfl) ?_ | (refine s_cond rfl ⟨_, rfl, fun hb => ?_, fun hb => ?_⟩ <;> (have hc := hb; try simp only [go_sem] at hc)) | refine s_ret rfl ?_) | ((with_reducible refine Qb ?_ ?_); focus kernel_rfl) | ((with_reducible refine And.intro ?_ ?_); focus omega) | (refine contA_of hK ?_; clear hK K'; simp only [go_sem, *]) | (simp only [thenA, inBlockA, go_sem, *]))
   refine ⟨_, (by omega), [some 0, some 1, some 2, some 3, some 4, some 5], [], _, _, _, (by (simp only [Weak, go_sem, List.map_append, List.map_set, *] <;> (try simp (disch := omega) only [wrap_succ]) <;> (try simp) <;> (try omega))), 2 + 1, rfl, (by omega), (by trivial), rfl, rfl, rfl⟩
  ·repeat' (first | (with_reducible (show runOps ..); first | (refine Qr rfl ?_; try intro K' hK; try simp only [go_sem, *])) | (with_reducible (show Hold ..); first | refine Qh rfl ?_ | refine s_draw rfl Tryz.mixed (by kernel_rfl) ?_ | (refine s_cond rfl ⟨_, rfl, fun hb => ?_, fun hb => ?_⟩ <;> (have hc := hb; try simp only [go_sem] at hc)) | refine s_ret rfl ?_) | ((with_reducible refine Qb ?_ ?_); focus kernel_rfl) | ((with_reducible refine And.intro ?_ ?_); focus omega) | (refine contA_of hK ?_; clear hK K'; simp only [go_sem, *]) | (simp only [thenA, inBlockA, go_sem, *]))
   have e : laid (hs.flatMap g) 3 = [isort cmpP b0, isort cmpP b1, isort cmpP b2] := by
    rw [p0.fin hnd (n := 3) (by omega), p1.fin hnd (n := 3) (by omega), p2.fin hnd (n := 3) (by omega)]; simp [laid, rowAt, List.range_succ]
   refine ⟨[.agg [.own 2 1 0 3]], [], [2, 3, 4, 5], ⟨by simp only [resOne, go_sem], trivial⟩, ?_⟩
   simp only [go_sem, e, *]
   exact .inr (by simp)
 ·obtain ⟨hr, hrk, hrx⟩ : ∃ hr : r < rem.length, (rem.map House.key)[r] = (rem[r]).key ∧ (rem.map (MapV g))[r] = .list ((g rem[r]).map House.enc) := ⟨by simpa using hr1, by simp, by simp [MapV]⟩
  rw [hrk, hrx, ← map_eraseIdx', ← map_eraseIdx']
  generalize (rem[r]).key = kk at *
  clear hrk
  simp only [go_sem]
  repeat' (first | (with_reducible (show runOps ..); first | (refine Qr rfl ?_; try intro K' hK; try simp only [go_sem, *])) | (with_reducible (show Hold ..); first | refine Qh rfl ?_ | refine s_draw rfl Tryz.mixed (by kernel_rfl) ?_ | (refine s_cond rfl ⟨_, rfl, fun hb => ?_, fun hb => ?_⟩ <;> (have hc := hb; try simp only [go_sem] at hc)) | refine s_ret rfl ?_) | ((with_reducible refine Qb ?_ ?_); focus kernel_rfl) | ((with_reducible refine And.intro ?_ ?_); focus omega) | (refine contA_of hK ?_; clear hK K'; simp only [go_sem, *]) | (simp only [thenA, inBlockA, go_sem, *]))
  obtain ⟨hlen0, hsub, p0, p1, p2⟩ := hP
  have p0 := p0.pick r hr
  have p1 := p1.pick r hr
  have p2 := p2.pick r hr
  have hll : (g rem[r]).length ≤ 1000 := hgl _ (hsub _ (List.getElem_mem hr))
  have hsl2 : ∀ z, z ∈ g rem[r] → 0 ≤ z.street ∧ z.street < 3 := fun z hz => hst z (List.mem_flatMap.2 ⟨_, hsub _ (List.getElem_mem hr), hz⟩)
  clear hrx
  generalize g rem[r] = l at *
  refine s_loop rfl (fun zn zN zenv zAs => ∃ (j : Nat) (b0 : List Plate) (b1 : List Plate) (b2 : List Plate), zn = (l.length) - j ∧ j ≤ (l.length) ∧ (AfQ3 (l.drop j ++ (rem.eraseIdx r).flatMap g) (hs.flatMap g) b0 b1 b2) ∧ zN = 54 ∧ zenv = [(23, iV j), (22, iV l.length), (21, encHouses l), (4, .ptr 0 0), (5, .ptr 1 0), (16, .ptr 6 0)] ∧ zAs = [.box [nilV], .box [.own 2 1 0 3], .box [.own 3 2 0 b0.length, .own 4 2 0 b1.length, .own 5 2 0 b2.length], .row 2 (b0.map Plate.enc), .row 2 (b1.map Plate.enc), .row 2 (b2.map Plate.enc), .iter (some (kk, .list (l.map House.enc))) ((rem.eraseIdx r).map House.key) ((rem.eraseIdx r).map (MapV g))]) (l.length) ⟨[some 0, some 1, some 2, some 3, some 4, some 5, some 6], [], _, _, _, (by (simp only [Weak, go_sem, List.map_append, List.map_set, *] <;> (try simp (disch := omega) only [wrap_succ]) <;> (try simp) <;> (try omega))), 0, b0, b1, b2, (by simp), (by simp), (by exact ⟨p0, p1, p2⟩), rfl, rfl, rfl⟩ ?_; rintro _ _ _ _ ⟨j, b0, b1, b2, rfl, hj, hQ, rfl, rfl, rfl⟩
  by_cases hj : j < l.length
  ·have hz := hsl2 _ (getD_mem hj)
   have hdj := drop_cons hj
   rw [hdj, List.cons_append] at hQ
   obtain ⟨q0, q1, q2⟩ := hQ
   have hl0 := Nat.le_trans q0.len (hlen 0 (by omega))
   have hl1 := Nat.le_trans q1.len (hlen 1 (by omega))
   have hl2 := Nat.le_trans q2.len (hlen 2 (by omega))
   clear hdj
   rcases (by omega : (l.getD j default).street = 0 ∨ (l.getD j default).street = 1 ∨ (l.getD j default).street = 2) with hs0 | hs0 | hs0
   ·repeat' (first | (with_reducible (show runOps ..); first | (refine Qr rfl ?_; try intro K' hK; try simp only [go_sem, *])) | (with_reducible (show Hold ..); first | refine Qh rfl ?_ | refine s_draw rfl Tryz.mixed (by kernel_rfl) ?_ | (refine s_cond rfl ⟨_, rfl, fun hb => ?_, fun hb => ?_⟩ <;> (have hc := hb; try simp only [go_sem] at hc)) | refine s_ret rfl ?_) | ((with_reducible refine Qb ?_ ?_); focus kernel_rfl) | ((with_reducible refine And.intro ?_ ?_); focus omega) | (refine contA_of hK ?_; clear hK K'; simp only [go_sem, *]) | (simp only [thenA, inBlockA, go_sem, *]))
    refine ⟨_, (by omega), [some 0, some 1, some 2, some 9, some 4, some 5, some 6], [], _, _, _, (by (simp only [Weak, go_sem, List.map_append, List.map_set, *] <;> (try simp (disch := omega) only [wrap_succ]) <;> (try simp) <;> (try omega))), j + 1, b0 ++ [(l.getD j default).plate], b1, b2, rfl, (by omega), (by exact ⟨q0.step_in (by rw [hs0]; rfl), q1.step_out (by rw [hs0]; decide), q2.step_out (by rw [hs0]; decide)⟩), rfl, rfl, rfl⟩
   ·repeat' (first | (with_reducible (show runOps ..); first | (refine Qr rfl ?_; try intro K' hK; try simp only [go_sem, *])) | (with_reducible (show Hold ..); first | refine Qh rfl ?_ | refine s_draw rfl Tryz.mixed (by kernel_rfl) ?_ | (refine s_cond rfl ⟨_, rfl, fun hb => ?_, fun hb => ?_⟩ <;> (have hc := hb; try simp only [go_sem] at hc)) | refine s_ret rfl ?_) | ((with_reducible refine Qb ?_ ?_); focus kernel_rfl) | ((with_reducible refine And.intro ?_ ?_); focus omega) | (refine contA_of hK ?_; clear hK K'; simp only [go_sem, *]) | (simp only [thenA, inBlockA, go_sem, *]))
    refine ⟨_, (by omega), [some 0, some 1, some 2, some 3, some 9, some 5, some 6], [], _, _, _, (by (simp only [Weak, go_sem, List.map_append, List.map_set, *] <;> (try simp (disch := omega) only [wrap_succ]) <;> (try simp) <;> (try omega))), j + 1, b0, b1 ++ [(l.getD j default).plate], b2, rfl, (by omega), (by exact ⟨q0.step_out (by rw [hs0]; decide), q1.step_in (by rw [hs0]; rfl), q2.step_out (by rw [hs0]; decide)⟩), rfl, rfl, rfl⟩
   ·repeat' (first | (with_reducible (show runOps ..); first | (refine Qr rfl ?_; try intro K' hK; try simp only [go_sem, *])) | (with_reducible (show Hold ..); first | refine Qh rfl ?_ | refine s_draw rfl Tryz.mixed (by kernel_rfl) ?_ | (refine s_cond rfl ⟨_, rfl, fun hb => ?_, fun hb => ?_⟩ <;> (have hc := hb; try simp only [go_sem] at hc)) | refine s_ret rfl ?_) | ((with_reducible refine Qb ?_ ?_); focus kernel_rfl) | ((with_reducible refine And.intro ?_ ?_); focus omega) | (refine contA_of hK ?_; clear hK K'; simp only [go_sem, *]) | (simp only [thenA, inBlockA, go_sem, *]))
    refine ⟨_, (by omega), [some 0, some 1, some 2, some 3, some 4, some 9, some 6], [], _, _, _, (by (simp only [Weak, go_sem, List.map_append, List.map_set, *] <;> (try simp (disch := omega) only [wrap_succ]) <;> (try simp) <;> (try omega))), j + 1, b0, b1, b2 ++ [(l.getD j default).plate], rfl, (by omega), (by exact ⟨q0.step_out (by rw [hs0]; decide), q1.step_out (by rw [hs0]; decide), q2.step_in (by rw [hs0]; rfl)⟩), rfl, rfl, rfl⟩
  ·repeat' (first | (with_reducible (show runOps ..); first | (refine Qr rfl ?_; try intro K' hK; try simp only [go_sem, *])) | (with_reducible (show Hold ..); first | refine Qh rfl ?_ | refine s_draw rfl Tryz.mixed (by kernel_rfl) ?_ | (refine s_cond rfl ⟨_, rfl, fun hb => ?_, fun hb => ?_⟩ <;> (have hc := hb; try simp only [go_sem] at hc)) | refine s_ret rfl ?_) | ((with_reducible refine Qb ?_ ?_); focus kernel_rfl) | ((with_reducible refine And.intro ?_ ?_); focus omega) | (refine contA_of hK ?_; clear hK K'; simp only [go_sem, *]) | (simp only [thenA, inBlockA, go_sem, *]))
   rw [drop_end (by omega), List.nil_append] at hQ
   refine ⟨_, (by omega), [some 0, some 1, some 2, some 3, some 4, some 5, some 6], [], _, _, _, (by (simp only [Weak, go_sem, List.map_append, List.map_set, *] <;> (try simp (disch := omega) only [wrap_succ]) <;> (try simp) <;> (try omega))), i + 1, (some (kk, .list (l.map House.enc))), rem.eraseIdx r, b0, b1, b2, rfl, (by omega), (by exact ⟨by rw [List.length_eraseIdx_of_lt hr]; omega, fun h hh => hsub h ((List.eraseIdx_sublist _ _).subset hh), hQ⟩), rfl, rfl, rfl⟩
end Go.Abs

namespace Go.Abs
open Go Go.Proofs
set_option maxRecDepth 10000
theorem zero_plate (x : Plate) : (x.number == 0 && x.letter == 0) = decide (x = zeroPlate) := plate_beq x zeroPlate
theorem bf {a : Bool} (h : ¬ a = true) : a = false := by simpa using h
theorem sp_effect_all (p : Plan) (c : Change) (v : Valid p) :
  (can p c ≠ 0 → Spec Tryz.prog 125 [encPlan p, c.enc] [] (.tup [.raw (.map none), iV (can p c)]) []) ∧
  (can p c = 0 → Spec Tryz.prog 125 [encPlan p, c.enc] [] (.tup [.mp 0, iV 0]) [.mapo (keysP p) (movesP p (mv p c))]) := by
 have hl : p.length ≤ 1000 := by have := v.len; omega
 unfold can
 by_cases hk : betw c.kind 1 7 = true
 rotate_left
 ·rw [if_pos (bf hk)]; exact ⟨fun _ => eff_kind p c hl (bf hk), fun h => absurd h (by omega)⟩
 rw [if_neg (by simp [hk])]
 by_cases hs : betw c.street 0 ((p.length : Int) - 1) = true
 rotate_left
 ·rw [if_pos (bf hs)]; exact ⟨fun _ => eff_street p c hl hk (bf hs), fun h => absurd h (by omega)⟩
 rw [if_neg (by simp [hs])]
 have hk' := betw_iff.1 hk
 have hs' := betw_iff.1 hs
 by_cases h4 : c.kind = 4
 ·have k4 : (c.kind == 4) = true := by simp [h4]
  have k7 : (c.kind == 7) = false := by simp [h4]
  have k5 : decide (c.kind ≥ 5) = false := by simp [h4]
  by_cases ho : betw c.other 0 ((p.length : Int) - 1) = true
  rotate_left
  ·rw [if_pos ⟨.inl h4, bf ho⟩]; exact ⟨fun _ => eff_o4 p c hl hk hs k4 (bf ho), fun h => absurd h (by omega)⟩
  rw [if_neg (by simp [ho])]
  have ho' := betw_iff.1 ho
  by_cases hr : c.other = c.street
  ·rw [if_pos ⟨.inl h4, hr⟩]; exact ⟨fun _ => eff_r4 p c hl hk hs k4 ho (by simp [hr]), fun h => absurd h (by omega)⟩
  rw [if_neg (by simp [hr])]
  have hr' : (c.other == c.street) = false := by simp [hr]
  by_cases hz : c.src = zeroPlate
  rotate_left
  ·rw [if_pos (.inr (.inl ⟨by omega, hz⟩))]; exact ⟨fun _ => eff_b4 p c hl hk hs k4 ho hr' k5 (by rw [zero_plate]; simp [hz]), fun h => absurd h (by omega)⟩
  have hz' : (c.src.number == 0 && c.src.letter == 0) = true := by rw [zero_plate]; simp [hz]
  by_cases hd : c.dst = zeroPlate
  rotate_left
  ·rw [if_pos (.inr (.inr ⟨by omega, hd⟩))]; exact ⟨fun _ => eff_c4 p c hl hk hs k4 k7 ho hr' k5 hz' (by rw [zero_plate]; simp [hd]), fun h => absurd h (by omega)⟩
  have hd' : (c.dst.number == 0 && c.dst.letter == 0) = true := by rw [zero_plate]; simp [hd]
  rw [if_neg (by simp [h4, hz, hd])]
  have sp := eff_k4 p c v ⟨hk', by omega, fun _ => by omega⟩ h4 ho hr' hz' hd'
  exact ⟨fun h => by simpa [effR, effO, h] using sp, fun h => by simpa [effR, effO, h] using sp⟩
 ·by_cases h7 : c.kind = 7
  ·have k4 : (c.kind == 4) = false := by simp [h7]
   have k7 : (c.kind == 7) = true := by simp [h7]
   by_cases ho : betw c.other 0 ((p.length : Int) - 1) = true
   rotate_left
   ·rw [if_pos ⟨.inr h7, bf ho⟩]; exact ⟨fun _ => eff_o7 p c hl hk hs k4 k7 (bf ho), fun h => absurd h (by omega)⟩
   rw [if_neg (by simp [ho])]
   have ho' := betw_iff.1 ho
   by_cases hr : c.other = c.street
   ·rw [if_pos ⟨.inr h7, hr⟩]; exact ⟨fun _ => eff_r7 p c hl hk hs k4 k7 ho (by simp [hr]), fun h => absurd h (by omega)⟩
   rw [if_neg (by simp [hr])]
   rw [if_neg (by simp [h7])]
   have sp := eff_k7 p c v ⟨hk', by omega, fun _ => by omega⟩ h7 ho (by simp [hr])
   exact ⟨fun h => by simpa [effR, effO, h] using sp, fun h => by simpa [effR, effO, h] using sp⟩
  ·have k4 : (c.kind == 4) = false := by simp [h4]
   have k7 : (c.kind == 7) = false := by simp [h7]
   rw [if_neg (by simp [h4, h7]), if_neg (by simp [h4, h7])]
   by_cases ho : c.other = 0
   rotate_left
   ·rw [if_pos (.inl ⟨by simp [h4, h7], ho⟩)]; exact ⟨fun _ => eff_a p c hl hk hs k4 k7 (by simp [ho]), fun h => absurd h (by omega)⟩
   have ho' : (c.other != 0) = false := by simp [ho]
   by_cases h5 : 5 ≤ c.kind
   ·have k5 : decide (c.kind ≥ 5) = true := by simp; omega
    by_cases hd : c.dst = zeroPlate
    rotate_left
    ·rw [if_pos (.inr (.inr ⟨h7, hd⟩))]; exact ⟨fun _ => eff_c5 p c hl hk hs k4 k7 ho' k5 (by rw [zero_plate]; simp [hd]), fun h => absurd h (by omega)⟩
    have hd' : (c.dst.number == 0 && c.dst.letter == 0) = true := by rw [zero_plate]; simp [hd]
    rw [if_neg (by simp [h4, h7, ho, h5, hd])]
    have f : Pre p c := ⟨hk', by omega, fun _ => by omega⟩
    rcases (by omega : c.kind = 5 ∨ c.kind = 6) with k | k
    ·have sp := eff_k5 p c v f k ho' hd'
     exact ⟨fun h => by simpa [effR, effO, h] using sp, fun h => by simpa [effR, effO, h] using sp⟩
    ·have sp := eff_k6 p c v f k ho' hd'
     exact ⟨fun h => by simpa [effR, effO, h] using sp, fun h => by simpa [effR, effO, h] using sp⟩
   ·have k5 : decide (c.kind ≥ 5) = false := by simp; omega
    by_cases hz : c.src = zeroPlate
    rotate_left
    ·rw [if_pos (.inr (.inl ⟨h5, hz⟩))]; exact ⟨fun _ => eff_b p c hl hk hs k4 k7 ho' k5 (by rw [zero_plate]; simp [hz]), fun h => absurd h (by omega)⟩
    have hz' : (c.src.number == 0 && c.src.letter == 0) = true := by rw [zero_plate]; simp [hz]
    by_cases hd : c.dst = zeroPlate
    rotate_left
    ·rw [if_pos (.inr (.inr ⟨h7, hd⟩))]; exact ⟨fun _ => eff_c p c hl hk hs k4 k7 ho' k5 hz' (by rw [zero_plate]; simp [hd]), fun h => absurd h (by omega)⟩
    have hd' : (c.dst.number == 0 && c.dst.letter == 0) = true := by rw [zero_plate]; simp [hd]
    rw [if_neg (by simp [h4, h7, ho, hz, hd])]
    have f : Pre p c := ⟨hk', by omega, fun _ => by omega⟩
    rcases (by omega : c.kind = 1 ∨ c.kind = 2 ∨ c.kind = 3) with k | k | k
    ·have sp := eff_k1 p c v f k ho' hz' hd'
     exact ⟨fun h => by simpa [effR, effO, h] using sp, fun h => by simpa [effR, effO, h] using sp⟩
    ·have sp := eff_k2 p c v f k ho' hz' hd'
     exact ⟨fun h => by simpa [effR, effO, h] using sp, fun h => by simpa [effR, effO, h] using sp⟩
    ·have sp := eff_k3 p c v f k ho' hz' hd'
     exact ⟨fun h => by simpa [effR, effO, h] using sp, fun h => by simpa [effR, effO, h] using sp⟩
theorem toP_len {p : Plan} {c : Change} (f : Fit p c) (x : Plate) : (toP p c x).length ≤ 2 := by
 rcases kinds f.kind with k | k | k | k | k | k | k
 ·rw [to_turn k]; simp
 ·rw [to_swap k]; simp
 ·rw [to_count k]; simp
 ·rw [to_join k]; simp
 ·rw [to_divide k]; split <;> simp
 ·rw [to_fell k]; split <;> simp
 ·rw [to_court k]; split <;> simp
theorem mv_len {p : Plan} {c : Change} (f : Fit p c) (h : House) : (mv p c h).length ≤ 2 := by
 unfold mv; split
 ·exact toP_len f _
 ·simp
theorem bucket_len {p : Plan} {c : Change} (v : Valid p) (f : Fit p c) (s : Nat) (hs : s < p.length) : ((flatMv p c).filter (fun h => h.street == (s : Int))).length ≤ 8 := by
 have h := after_row_len v f (s := s) (by omega) (by omega)
 refine Nat.le_trans ?_ h
 rw [← List.length_map (f := House.plate)]
 have hnd : (((flatMv p c).filter (fun h => h.street == (s : Int))).map House.plate).Nodup := by
  rw [List.nodup_iff_pairwise_ne, List.pairwise_map]
  refine ((flatMv_nodup v f).filter _).imp_of_mem (fun {a b} ha hb' hab e => hab ?_)
  have h1 := (List.mem_filter.1 ha).2
  have h2 := (List.mem_filter.1 hb').2
  simp at h1 h2
  cases a; cases b; simp_all
 refine nodup_len hnd (fun x hx => ?_)
 obtain ⟨z, hz, rfl⟩ := List.mem_map.1 hx
 obtain ⟨h1, h2⟩ := List.mem_filter.1 hz
 rw [afterOf, mem_laid_row (by omega) (by omega)]
 simp at h2
 rw [← h2]; exact h1
theorem sp_after (p : Plan) (c : Change) (v : Valid p) (f : Fit p c) : Spec Tryz.prog 89 [.fmap (keysP p) (movesP p (mv p c)), iV p.length] [] (encPlan (afterOf p c)) [] := by
 have hst : ∀ z, z ∈ (housesOf p).flatMap (mv p c) → 0 ≤ z.street ∧ z.street < p.length := fun z hz => by have := flatMv_in v f (z := z) hz; omega
 have hlen : ∀ s : Nat, s < p.length → (((housesOf p).flatMap (mv p c)).filter (fun h => h.street == (s : Int))).length ≤ 12 := fun s hs => by have := bucket_len v f s hs; unfold flatMv at this; omega
 have hsl : (housesOf p).length ≤ 1000 := by have := v.count; omega
 have hgl : ∀ h, h ∈ housesOf p → (mv p c h).length ≤ 1000 := fun h _ => by have := mv_len f h; omega
 have hnd := flatMv_nodup v f
 have h0 := v.ne
 have h3 := v.len
 unfold afterOf flatMv
 rcases (by omega : p.length = 1 ∨ p.length = 2 ∨ p.length = 3) with e | e | e <;> rw [e] at hst hlen ⊢
 ·exact sp_after1 _ _ hst hnd hlen hsl hgl
 ·exact sp_after2 _ _ hst hnd hlen hsl hgl
 ·exact sp_after3 _ _ hst hnd hlen hsl hgl
theorem sp_made (p : Plan) (c : Change) (hp : p.length ≤ 4294967296) :
  (errOf p c ≠ 0 → Spec Tryz.prog 88 [encPlan p, c.enc] [] (.tup [.raw (.map none), iV (errOf p c)]) []) ∧
  (errOf p c = 0 → Spec Tryz.prog 88 [encPlan p, c.enc] [] (.tup [.mp 0, iV 0]) [.mapo (keysP p) (movesP p (mv p c))]) := by
 by_cases hc : check p = 0
 ·have v := (check_zero p).1 hc
  have e : errOf p c = can p c := by simp [errOf, hc]
  rw [e]
  obtain ⟨s1, s2⟩ := sp_effect_all p c v
  refine ⟨fun h => ?_, fun h => ?_⟩
  ·have s := s1 h
   refine spec_body Tryz.func88 rfl (fun E hE => ?_); simp only [go_sem, Tryz.ntmps88]
   repeat' (first | (with_reducible (show runOps ..); first | (refine Qr rfl ?_; try intro K' hK; try simp only [go_sem, *])) | (with_reducible (show Hold ..); first | refine Qh rfl ?_ | (refine s_cond rfl ⟨_, rfl, fun hb => ?_, fun hb => ?_⟩ <;> (have hc := hb; try simp only [go_sem] at hc)) | refine s_ret rfl ?_) | (with_reducible (show callA ..); first | ((first | refine call_s (sp_Check p hp) ?_ ?_ | refine call_s (s) ?_ ?_); (focus (simp only [go_sem, *]; done)); simp only [go_sem, *])) | ((with_reducible refine Qb ?_ ?_); focus kernel_rfl) | ((with_reducible refine And.intro ?_ ?_); focus omega) | (refine contA_of hK ?_; clear hK K'; simp only [go_sem, *]) | (simp only [thenA, inBlockA, go_sem, *]))
   all_goals (refine ⟨[_, _], [], [], ⟨rfl, rfl, trivial⟩, ?_⟩; simp only [go_sem, *])
  ·have s := s2 h
   refine spec_body Tryz.func88 rfl (fun E hE => ?_); simp only [go_sem, Tryz.ntmps88]
   repeat' (first | (with_reducible (show runOps ..); first | (refine Qr rfl ?_; try intro K' hK; try simp only [go_sem, *])) | (with_reducible (show Hold ..); first | refine Qh rfl ?_ | (refine s_cond rfl ⟨_, rfl, fun hb => ?_, fun hb => ?_⟩ <;> (have hc := hb; try simp only [go_sem] at hc)) | refine s_ret rfl ?_) | (with_reducible (show callA ..); first | (refine call_s (sp_Check p hp) ?_ ?_; (focus (simp only [go_sem, *]; done)); simp only [go_sem, *]) | (refine call_n (s) ?_ ?_ ?_ ?_; (focus (simp only [go_sem, *]; done)); (focus (first | (simp; done) | (simp [go_sem]; done))); (focus (first | (simp; done) | (simp [go_sem]; done))); simp only [go_sem, *])) | ((with_reducible refine Qb ?_ ?_); focus kernel_rfl) | ((with_reducible refine And.intro ?_ ?_); focus omega) | (refine contA_of hK ?_; clear hK K'; simp only [go_sem, *]) | (simp only [thenA, inBlockA, go_sem, *]))
   refine ⟨[_, _], [some 2], [], ⟨rfl, rfl, trivial⟩, ?_⟩
   simp only [go_sem]
 ·have e : errOf p c = check p := by simp [errOf, hc]
  rw [e]
  refine ⟨fun h => ?_, fun h => absurd h hc⟩
  refine spec_body Tryz.func88 rfl (fun E hE => ?_); simp only [go_sem, Tryz.ntmps88]
  repeat' (first | (with_reducible (show runOps ..); first | (refine Qr rfl ?_; try intro K' hK; try simp only [go_sem, *])) | (with_reducible (show Hold ..); first | refine Qh rfl ?_ | (refine s_cond rfl ⟨_, rfl, fun hb => ?_, fun hb => ?_⟩ <;> (have hc := hb; try simp only [go_sem] at hc)) | refine s_ret rfl ?_) | (with_reducible (show callA ..); first | (refine call_s (sp_Check p hp) ?_ ?_; (focus (simp only [go_sem, *]; done)); simp only [go_sem, *])) | ((with_reducible refine Qb ?_ ?_); focus kernel_rfl) | ((with_reducible refine And.intro ?_ ?_); focus omega) | (refine contA_of hK ?_; clear hK K'; simp only [go_sem, *]) | (simp only [thenA, inBlockA, go_sem, *]))
  all_goals first | contradiction | (refine ⟨[_, _], [], [], ⟨rfl, rfl, trivial⟩, ?_⟩; simp only [go_sem, *])
theorem call_fz {P : Program} {f : FuncId} {avs args : List AV} {H : Nat → AObj} {nx : Nat} {K : Cont} {r : AV} {out : List AObj} {gone : List Nat} (sp : Spec P f args [] r out) (ha : (avs.map fun x => (frzV H 3 x).1) = args) (hg : (avs.map fun x => (frzV H 3 x).2).flatten = gone)
  (hx : XpL (fun o => if o ∈ gone then .dead else H o) [] [] args args) (hu : ∀ j, j < out.length → (if nx + j ∈ gone then AObj.dead else H (nx + j)) = .unb) (h7 : ∀ A, A ∈ out → A ≠ .unb)
  (hk : K (r.ren (backId [] nx)) (gone ++ newIds [] nx out) (deads gone ++ backObjs [] nx out)) : callA P f avs H nx K := by
 refine call_frz ?_
 rw [ha, hg]
 exact callB_of [] [] sp (by simp) hx trivial (by simp) (.inl rfl) (fun j hj => hu j (by simpa using hj)) h7 (by simpa using hk)
theorem sp_After (p : Plan) (c : Change) (hp : p.length ≤ 4294967296) :
    Spec Tryz.prog 25 [encPlan p, c.enc] [] (.tup [encPlan (if errOf p c = 0 then afterOf p c else []), iV (errOf p c)]) [] := by
  obtain ⟨s1, s2⟩ := sp_made p c hp
  by_cases e : errOf p c = 0
  · have hc : check p = 0 := by
      unfold errOf at e
      split at e <;> assumption
    have hcan : can p c = 0 := by unfold errOf at e; rw [if_pos hc] at e; exact e
    have v := (check_zero p).1 hc
    have f := Fit.of_can hcan
    have s := s2 e
    have sa := sp_after p c v f
    rw [if_pos e, e]
    clear s1 s2
    refine spec_body Tryz.func25 rfl (fun E hE => ?_); simp only [go_sem, Tryz.ntmps25]
    repeat' (first | (with_reducible (show runOps ..); first | (refine Qr rfl ?_; try intro K' hK; try simp only [go_sem, *])) | (with_reducible (show Hold ..); first | refine Qh rfl ?_ | (refine s_cond rfl ⟨_, rfl, fun hb => ?_, fun hb => ?_⟩ <;> (have hc := hb; try simp only [go_sem] at hc)) | refine s_ret rfl ?_) | (with_reducible (show callA ..); first | (refine call_n (s) ?_ ?_ ?_ ?_; (focus (simp only [go_sem, *]; done)); (focus (first | (simp; done) | (simp [go_sem]; done))); (focus (first | (simp; done) | (simp [go_sem]; done))); simp only [go_sem, *])) | ((with_reducible refine Qb ?_ ?_); focus kernel_rfl) | ((with_reducible refine And.intro ?_ ?_); focus omega) | (refine contA_of hK ?_; clear hK K'; simp only [go_sem, *]) | (simp only [thenA, inBlockA, go_sem, *]))
    refine call_fz (gone := [3]) sa (by simp only [go_sem]) (by simp only [go_sem]) (by simp only [go_sem]) (by simp) (by simp) ?_
    simp only [go_sem, deads]
    repeat' (first | (with_reducible (show runOps ..); first | (refine Qr rfl ?_; try intro K' hK; try simp only [go_sem, *])) | (with_reducible (show Hold ..); first | refine Qh rfl ?_ | (refine s_cond rfl ⟨_, rfl, fun hb => ?_, fun hb => ?_⟩ <;> (have hc := hb; try simp only [go_sem] at hc)) | refine s_ret rfl ?_) | ((with_reducible refine Qb ?_ ?_); focus kernel_rfl) | ((with_reducible refine And.intro ?_ ?_); focus omega) | (refine contA_of hK ?_; clear hK K'; simp only [go_sem, *]) | (simp only [thenA, inBlockA, go_sem, *]))
    refine ⟨[encPlan (afterOf p c), iV 0], [], [], ⟨(by simp only [resOne, go_sem]), rfl, trivial⟩, ?_⟩; simp only [go_sem, *]
  · have s := s1 e
    rw [if_neg e]
    clear s1 s2
    refine spec_body Tryz.func25 rfl (fun E hE => ?_); simp only [go_sem, Tryz.ntmps25]
    repeat' (first | (with_reducible (show runOps ..); first | (refine Qr rfl ?_; try intro K' hK; try simp only [go_sem, *])) | (with_reducible (show Hold ..); first | refine Qh rfl ?_ | (refine s_cond rfl ⟨_, rfl, fun hb => ?_, fun hb => ?_⟩ <;> (have hc := hb; try simp only [go_sem] at hc)) | refine s_ret rfl ?_) | (with_reducible (show callA ..); first | (refine call_s (s) ?_ ?_; (focus (simp only [go_sem, *]; done)); simp only [go_sem, *])) | ((with_reducible refine Qb ?_ ?_); focus kernel_rfl) | ((with_reducible refine And.intro ?_ ?_); focus omega) | (refine contA_of hK ?_; clear hK K'; simp only [go_sem, *]) | (simp only [thenA, inBlockA, go_sem, *]))
    all_goals first | contradiction | skip
    refine ⟨[.agg [nilV], iV (errOf p c)], [], [], ⟨(by simp only [resOne, go_sem]), rfl, trivial⟩, ?_⟩; simp only [go_sem, *]
end Go.Abs

namespace Go.Abs
open Go Go.Proofs
set_option maxRecDepth 10000
section
variable {α : Type} {a b : List α} {i : Nat}
theorem tk_end (ha : a.length ≤ i) (hl : a.length = b.length) (h : a.take i = b.take i) : a = b := by
 rwa [List.take_of_length_le ha, List.take_of_length_le (by omega)] at h
variable [Inhabited α]
theorem tk_succ {l : List α} (h : i < l.length) : l.take (i + 1) = l.take i ++ [l.getD i default] := by
 rw [List.take_add_one]; simp [List.getD, h]
theorem tk_next (ha : i < a.length) (hb : i < b.length) (h : a.take i = b.take i) (e : a.getD i default = b.getD i default) : a.take (i + 1) = b.take (i + 1) := by
 rw [tk_succ ha, tk_succ hb, h, e]
theorem tk_no (e : ¬ a.getD i default = b.getD i default) : ¬ a = b := fun h => e (by rw [h])
end
theorem len_no {α : Type} {a b : List α} (h : ¬ a.length = b.length) : ¬ a = b := fun e => h (by rw [e])
theorem sp_Equal_plate (a b : List Plate) (h1 : a.length ≤ 4294967296) : Spec Tryz.prog 146 [encStreet a, encStreet b] [] (bV (decide (a = b))) [] := by
 refine spec_body Tryz.func146 rfl (fun E hE => ?_); simp only [go_sem, Tryz.ntmps146]
 repeat' (first | (with_reducible (show runOps ..); first | (refine Qr rfl ?_; try intro K' hK; try simp only [go_sem, *])) | (with_reducible (show Hold ..); first | refine Qh rfl ?_ | refine s_draw rfl Tryz.mixed (by kernel_rfl) ?_ | (refine s_cond rfl ⟨_, rfl, fun hb => ?_, fun hb => ?_⟩ <;> (have hc := hb; try simp only [go_sem] at hc)) | refine s_ret rfl ?_) | ((with_reducible refine Qb ?_ ?_); focus kernel_rfl) | ((with_reducible refine And.intro ?_ ?_); focus omega) | (refine contA_of hK ?_; clear hK K'; simp only [go_sem, *]) | (simp only [thenA, inBlockA, go_sem, *]))
 ·(refine ⟨[_], [], [], ⟨rfl, trivial⟩, ?_⟩; simp only [go_sem, *])
  simp [len_no (a := a) (b := b) (by assumption)]
 ·have hlb : a.length = b.length := by assumption
  refine s_loop rfl (fun zn zN zenv zAs => ∃ (i : Nat), zn = (b.length) - i ∧ i ≤ (b.length) ∧ (a.take i = b.take i) ∧ zN = 26 ∧ zenv = [(13, iV i), (12, iV b.length), (0, encStreet a), (1, encStreet b)] ∧ zAs = []) (b.length) ⟨[], [], _, _, _, (by (simp only [Weak, go_sem, List.map_append, List.map_set, *] <;> (try simp (disch := omega) only [wrap_succ]) <;> (try simp) <;> (try omega))), 0, (by simp), (by simp), (by simp), rfl, rfl, rfl⟩ ?_; rintro _ _ _ _ ⟨i, rfl, hi, hP, rfl, rfl, rfl⟩
  repeat' (first | (with_reducible (show runOps ..); first | (refine Qr rfl ?_; try intro K' hK; try simp only [go_sem, *])) | (with_reducible (show Hold ..); first | refine Qh rfl ?_ | refine s_draw rfl Tryz.mixed (by kernel_rfl) ?_ | (refine s_cond rfl ⟨_, rfl, fun hb => ?_, fun hb => ?_⟩ <;> (have hc := hb; try simp only [go_sem] at hc)) | refine s_ret rfl ?_) | ((with_reducible refine Qb ?_ ?_); focus kernel_rfl) | ((with_reducible refine And.intro ?_ ?_); focus omega) | (refine contA_of hK ?_; clear hK K'; simp only [go_sem, *]) | (simp only [thenA, inBlockA, go_sem, *]))
  ·(refine ⟨[_], [], [], ⟨rfl, trivial⟩, ?_⟩; simp only [go_sem, *])
   simp [tk_no (a := a) (b := b) (i := i) (by assumption)]
  ·refine ⟨_, (by omega), [], [], _, _, _, (by (simp only [Weak, go_sem, List.map_append, List.map_set, *] <;> (try simp (disch := omega) only [wrap_succ]) <;> (try simp) <;> (try omega))), i + 1, rfl, (by omega), (by exact tk_next (by omega) (by omega) hP (by assumption)), rfl, rfl, rfl⟩
  ·(refine ⟨[_], [], [], ⟨rfl, trivial⟩, ?_⟩; simp only [go_sem, *])
   simp [tk_end (by omega) hlb hP]
theorem sp_EqualFunc (a b : Plan) (h1 : a.length ≤ 4294967296) (hrl : ∀ l, l ∈ a → l.length ≤ 4294967296) : Spec Tryz.prog 145 [.list (a.map encStreet), .list (b.map encStreet), fnV 146] [] (bV (decide (a = b))) [] := by
 have hca : callable Tryz.prog 146 = true := by kernel_rfl
 refine spec_body Tryz.func145 rfl (fun E hE => ?_); simp only [go_sem, Tryz.ntmps145]
 repeat' (first | (with_reducible (show runOps ..); first | (refine Qr rfl ?_; try intro K' hK; try simp only [go_sem, *])) | (with_reducible (show Hold ..); first | refine Qh rfl ?_ | (refine s_cond rfl ⟨_, rfl, fun hb => ?_, fun hb => ?_⟩ <;> (have hc := hb; try simp only [go_sem] at hc)) | refine s_ret rfl ?_) | ((with_reducible refine Qb ?_ ?_); focus kernel_rfl) | ((with_reducible refine And.intro ?_ ?_); focus omega) | (refine contA_of hK ?_; clear hK K'; simp only [go_sem, *]) | (simp only [thenA, inBlockA, go_sem, *]))
 ·(refine ⟨[_], [], [], ⟨rfl, trivial⟩, ?_⟩; simp only [go_sem, *])
  simp [len_no (a := a) (b := b) (by assumption)]
 ·have hlb : a.length = b.length := by assumption
  refine s_loop rfl (fun zn zN zenv zAs => ∃ (i : Nat), zn = (b.length) - i ∧ i ≤ (b.length) ∧ (a.take i = b.take i) ∧ zN = 32 ∧ zenv = [(17, iV i), (16, iV b.length), (15, .list (a.map encStreet)), (1, .list (b.map encStreet)), (2, fnV 146)] ∧ zAs = []) (b.length) ⟨[], [], _, _, _, (by (simp only [Weak, go_sem, List.map_append, List.map_set, *] <;> (try simp (disch := omega) only [wrap_succ]) <;> (try simp) <;> (try omega))), 0, (by simp), (by simp), (by simp), rfl, rfl, rfl⟩ ?_; rintro _ _ _ _ ⟨i, rfl, hi, hP, rfl, rfl, rfl⟩
  repeat' (first | (with_reducible (show runOps ..); first | (refine Qr rfl ?_; try intro K' hK; try simp only [go_sem, *])) | (with_reducible (show Hold ..); first | refine Qh rfl ?_ | (refine s_cond rfl ⟨_, rfl, fun hb => ?_, fun hb => ?_⟩ <;> (have hc := hb; try simp only [go_sem] at hc)) | refine s_ret rfl ?_) | (with_reducible (show callA ..); first | (refine call_s (sp_Equal_plate (List.getD a i default) (List.getD b i default) (hrl _ (getD_mem (by omega)))) ?_ ?_; (focus (simp only [go_sem, *]; done)); simp only [go_sem, *])) | ((with_reducible refine Qb ?_ ?_); focus kernel_rfl) | ((with_reducible refine And.intro ?_ ?_); focus omega) | (refine contA_of hK ?_; clear hK K'; simp only [go_sem, *]) | (simp only [thenA, inBlockA, go_sem, *]))
  ·(refine ⟨[_], [], [], ⟨rfl, trivial⟩, ?_⟩; simp only [go_sem, *])
   simp [tk_no (a := a) (b := b) (i := i) (by assumption)]
  ·refine ⟨_, (by omega), [], [], _, _, _, (by (simp only [Weak, go_sem, List.map_append, List.map_set, *] <;> (try simp (disch := omega) only [wrap_succ]) <;> (try simp) <;> (try omega))), i + 1, rfl, (by omega), (by exact tk_next (by omega) (by omega) hP (by assumption)), rfl, rfl, rfl⟩
  ·(refine ⟨[_], [], [], ⟨rfl, trivial⟩, ?_⟩; simp only [go_sem, *])
   simp [tk_end (by omega) hlb hP]
theorem sp_same (a b : Plan) (h1 : a.length ≤ 4294967296) (hrl : ∀ l, l ∈ a → l.length ≤ 4294967296) : Spec Tryz.prog 111 [encPlan a, encPlan b] [] (bV (decide (a = b))) [] := by
 refine spec_body Tryz.func111 rfl (fun E hE => ?_); simp only [go_sem, Tryz.ntmps111]
 repeat' (first | (with_reducible (show runOps ..); first | (refine Qr rfl ?_; try intro K' hK; try simp only [go_sem, *])) | (with_reducible (show Hold ..); first | refine Qh rfl ?_ | (refine s_cond rfl ⟨_, rfl, fun hb => ?_, fun hb => ?_⟩ <;> (have hc := hb; try simp only [go_sem] at hc)) | refine s_ret rfl ?_) | (with_reducible (show callA ..); first | (refine call_s (sp_EqualFunc a b h1 hrl) ?_ ?_; (focus (simp only [go_sem, *]; done)); simp only [go_sem, *])) | ((with_reducible refine Qb ?_ ?_); focus kernel_rfl) | ((with_reducible refine And.intro ?_ ?_); focus omega) | (refine contA_of hK ?_; clear hK K'; simp only [go_sem, *]) | (simp only [thenA, inBlockA, go_sem, *]))
 all_goals (refine ⟨[_], [], [], ⟨rfl, trivial⟩, ?_⟩; simp only [go_sem, *])
end Go.Abs

namespace Go.Abs
open Go Go.Proofs
set_option maxRecDepth 10000
def guessAt (kind : Int) (p : Plan) (s : Nat) : List Change :=
 if kind = 4 then ((List.range p.length).filter (fun o => decide (o ≠ s))).map fun o => ⟨4, s, (o : Nat), zeroPlate, zeroPlate⟩
 else if kind = 5 ∨ kind = 6 then (p.getD s default).map fun x => ⟨kind, s, 0, x, zeroPlate⟩
 else [⟨kind, s, 0, zeroPlate, zeroPlate⟩]
def guessFrom (kind : Int) (p : Plan) (s : Nat) : List Change := (List.range' s (p.length - s)).flatMap (guessAt kind p)
def guessK : Nat → Plan → List Change
 | 0, _ => []
 | m + 1, p => guessFrom (6 - (m : Nat)) p 0 ++ guessK m p
def guessL (p : Plan) : List Change := guessK 6 p
theorem guessFrom_step {kind : Int} {p : Plan} {s : Nat} (h : s < p.length) : guessFrom kind p s = guessAt kind p s ++ guessFrom kind p (s + 1) := by
 unfold guessFrom
 rw [show p.length - s = (p.length - (s + 1)) + 1 by omega, List.range'_succ, List.flatMap_cons]
theorem guessFrom_end {kind : Int} {p : Plan} {s : Nat} (h : p.length ≤ s) : guessFrom kind p s = [] := by
 unfold guessFrom
 rw [show p.length - s = 0 by omega]; rfl
theorem guessAt_len {kind : Int} {p : Plan} (v : Valid p) (s : Nat) : (guessAt kind p s).length ≤ 8 := by
 unfold guessAt
 have := v.len
 have h := (v.row s).len
 unfold rowAt at h
 split
 ·simp only [List.length_map]
  have := List.length_filter_le (fun o => decide (o ≠ s)) (List.range p.length)
  simp at this ⊢; omega
 ·split
  ·simpa using h
  ·simp
theorem guessFrom_len {kind : Int} {p : Plan} (v : Valid p) (s : Nat) : (guessFrom kind p s).length ≤ 24 := by
 have key : ∀ n s, ((List.range' s n).flatMap (guessAt kind p)).length ≤ n * 8 := by
  intro n
  induction n with
  | zero => intro s; simp
  | succ n ih => intro s; have := ih (s + 1); have := guessAt_len (kind := kind) v s; simp only [List.range'_succ, List.flatMap_cons, List.length_append]; omega
 have := key (p.length - s) s
 have := v.len
 unfold guessFrom; omega
theorem guessK_len {p : Plan} (v : Valid p) : ∀ m, (guessK m p).length ≤ m * 24
 | 0 => by simp [guessK]
 | m + 1 => by
  have := guessK_len v m
  have := guessFrom_len (kind := 6 - (m : Nat)) v 0
  simp only [guessK, List.length_append]; omega
def joinFrom (p : Plan) (s o : Nat) : List Change := ((List.range' o (p.length - o)).filter (fun o => decide (o ≠ s))).map fun o => ⟨4, s, (o : Nat), zeroPlate, zeroPlate⟩
theorem guessAt_join {p : Plan} {s : Nat} : guessAt 4 p s = joinFrom p s 0 := by simp [guessAt, joinFrom, List.range_eq_range']
theorem joinFrom_in {p : Plan} {s o : Nat} (h : o < p.length) (e : o ≠ s) : joinFrom p s o = ⟨4, s, o, zeroPlate, zeroPlate⟩ :: joinFrom p s (o + 1) := by
 unfold joinFrom
 rw [show p.length - o = (p.length - (o + 1)) + 1 by omega, List.range'_succ, List.filter_cons, if_pos (by simpa using e), List.map_cons]
theorem joinFrom_out {p : Plan} {s o : Nat} (h : o < p.length) (e : o = s) : joinFrom p s o = joinFrom p s (o + 1) := by
 unfold joinFrom
 rw [show p.length - o = (p.length - (o + 1)) + 1 by omega, List.range'_succ, List.filter_cons, if_neg (by simpa using e)]
theorem joinFrom_end {p : Plan} {s o : Nat} (h : p.length ≤ o) : joinFrom p s o = [] := by
 unfold joinFrom
 rw [show p.length - o = 0 by omega]; rfl
theorem guessAt_each {kind : Int} {p : Plan} {s : Nat} (h4 : ¬ kind = 4) (h : kind = 5 ∨ kind = 6) : guessAt kind p s = (p.getD s default).map fun x => ⟨kind, s, 0, x, zeroPlate⟩ := by
 unfold guessAt; rw [if_neg h4, if_pos h]
theorem guessAt_else {kind : Int} {p : Plan} {s : Nat} (h4 : ¬ kind = 4) (h : ¬ (kind = 5 ∨ kind = 6)) : guessAt kind p s = [⟨kind, s, 0, zeroPlate, zeroPlate⟩] := by
 unfold guessAt; rw [if_neg h4, if_neg h]
theorem sp_guesses (p : Plan) (v : Valid p) : Spec Tryz.prog 131 [encPlan p] [] (.list ((guessL p).map Change.enc)) [] := by
 have hp3 := v.len
 have hgl := guessK_len v 6
 refine spec_body Tryz.func131 rfl (fun E hE => ?_); simp only [go_sem, Tryz.ntmps131]
 repeat' (first | (with_reducible (show runOps ..); first | (refine Qr rfl ?_; try intro K' hK; try simp only [go_sem, *])) | (with_reducible (show Hold ..); first | refine Qh rfl ?_ | (refine s_cond rfl ⟨_, rfl, fun hb => ?_, fun hb => ?_⟩ <;> (have hc := hb; try simp only [go_sem] at hc)) | refine s_ret rfl ?_) | ((with_reducible refine Qb ?_ ?_); focus kernel_rfl) | ((with_reducible refine And.intro ?_ ?_); focus omega) | (refine contA_of hK ?_; clear hK K'; simp only [go_sem, *]) | (simp only [thenA, inBlockA, go_sem, *]))
 refine s_loop rfl (fun zn zN zenv zAs => ∃ (m : Nat) (acc : List Change), zn = (6) - m ∧ m ≤ (6) ∧ (acc ++ guessK (6 - m) p = guessL p) ∧ zN = 67 ∧ zenv = [(4, iV ((m : Int) + 1)), (3, .own 1 7 0 acc.length), (1, .ptr 0 0)] ∧ zAs = [pBox p, .row 7 (acc.map Change.enc)]) (6) ⟨[some 0, none], [], _, _, _, (by (simp only [Weak, go_sem, List.map_append, List.map_set, *] <;> (try simp (disch := omega) only [wrap_succ]) <;> (try simp) <;> (try omega))), 0, [], (by simp), (by simp), (by rfl), rfl, rfl, rfl⟩ ?_; rintro _ _ _ _ ⟨m, acc, rfl, hm, hP, rfl, rfl, rfl⟩
 have hw : m < 6 → IntKind.i64.wrap ((m : Int) + 1 + 1) = (((m + 1 : Nat) : Int) + 1) := fun h => by rw [wrap_i64 (by omega) (by omega)]; omega
 have hm6 : ((m : Int) + 1 ≤ 6) = (m < 6) := by simp only [eq_iff_iff]; omega
 repeat' (first | (with_reducible (show runOps ..); first | (refine Qr rfl ?_; try intro K' hK; try simp only [go_sem, *])) | (with_reducible (show Hold ..); first | refine Qh rfl ?_ | (refine s_cond rfl ⟨_, rfl, fun hb => ?_, fun hb => ?_⟩ <;> (have hc := hb; try simp only [go_sem] at hc)) | refine s_ret rfl ?_) | ((with_reducible refine Qb ?_ ?_); focus kernel_rfl) | ((with_reducible refine And.intro ?_ ?_); focus omega) | (refine contA_of hK ?_; clear hK K'; simp only [go_sem, *]) | (simp only [thenA, inBlockA, go_sem, *]))
 ·have hm : m < 6 := by assumption
  obtain ⟨kk, hkk⟩ : ∃ kk : Int, kk = (m : Int) + 1 := ⟨_, rfl⟩
  have hstep : guessK (6 - m) p = guessFrom kk p 0 ++ guessK (6 - (m + 1)) p := by
   rw [show 6 - m = (6 - (m + 1)) + 1 by omega, guessK, hkk]
   congr 2
   omega
  rw [hstep] at hP
  have hw2 : IntKind.i64.wrap (kk + 1) = ((m + 1 : Nat) : Int) + 1 := by rw [hkk, hw hm]
  clear hw
  rw [← hkk] at *
  clear hstep
  refine s_loop rfl (fun zn zN zenv zAs => ∃ (s : Nat) (acc : List Change), zn = (p.length) - s ∧ s ≤ (p.length) ∧ (acc ++ (guessFrom kk p s ++ guessK (6 - (m + 1)) p) = guessL p) ∧ zN = 67 ∧ zenv = [(17, iV s), (16, iV p.length), (15, .list (p.map encStreet)), (4, iV kk), (3, .own 1 7 0 acc.length), (1, .ptr 0 0)] ∧ zAs = [pBox p, .row 7 (acc.map Change.enc)]) (p.length) ⟨[some 0, some 1], [], _, _, _, (by (simp only [Weak, go_sem, List.map_append, List.map_set, *] <;> (try simp (disch := omega) only [wrap_succ]) <;> (try simp) <;> (try omega))), 0, acc, (by simp), (by simp), (by exact hP), rfl, rfl, rfl⟩ ?_; rintro _ _ _ _ ⟨s, acc, rfl, hs, hQ, rfl, rfl, rfl⟩
  clear hP
  have hqle := congrArg List.length hQ
  simp only [List.length_append] at hqle
  unfold guessL at hqle
  by_cases hs : s < p.length
  ·rw [guessFrom_step hs] at hQ
   have hrow : (p.getD s default).length ≤ 8 := (v.rows _ (getD_mem hs)).len
   by_cases k4 : kk = 4
   ·subst k4
    rw [guessAt_join] at hQ
    repeat' (first | (with_reducible (show runOps ..); first | (refine Qr rfl ?_; try intro K' hK; try simp only [go_sem, *])) | (with_reducible (show Hold ..); first | refine Qh rfl ?_ | (refine s_cond rfl ⟨_, rfl, fun hb => ?_, fun hb => ?_⟩ <;> (have hc := hb; try simp only [go_sem] at hc)) | refine s_ret rfl ?_) | ((with_reducible refine Qb ?_ ?_); focus kernel_rfl) | ((with_reducible refine And.intro ?_ ?_); focus omega) | (refine contA_of hK ?_; clear hK K'; simp only [go_sem, *]) | (simp only [thenA, inBlockA, go_sem, *]))
    refine s_loop rfl (fun zn zN zenv zAs => ∃ (o : Nat) (acc : List Change), zn = (p.length) - o ∧ o ≤ (p.length) ∧ (acc ++ (joinFrom p s o ++ guessFrom 4 p (s + 1)) ++ guessK (6 - (m + 1)) p = guessL p) ∧ zN = 67 ∧ zenv = [(34, iV o), (33, iV p.length), (5, iV s), (17, iV s), (16, iV p.length), (15, .list (p.map encStreet)), (4, iV 4), (3, .own 1 7 0 acc.length), (1, .ptr 0 0)] ∧ zAs = [pBox p, .row 7 (acc.map Change.enc)]) (p.length) ⟨[some 0, some 1], [], _, _, _, (by (simp only [Weak, go_sem, List.map_append, List.map_set, *] <;> (try simp (disch := omega) only [wrap_succ]) <;> (try simp) <;> (try omega))), 0, acc, (by simp), (by simp), (by simpa using hQ), rfl, rfl, rfl⟩ ?_; rintro _ _ _ _ ⟨o, acc, rfl, ho, hR, rfl, rfl, rfl⟩
    clear hQ hqle
    have hqle := congrArg List.length hR
    simp only [List.length_append] at hqle
    unfold guessL at hqle
    repeat' (first | (with_reducible (show runOps ..); first | (refine Qr rfl ?_; try intro K' hK; try simp only [go_sem, *])) | (with_reducible (show Hold ..); first | refine Qh rfl ?_ | (refine s_cond rfl ⟨_, rfl, fun hb => ?_, fun hb => ?_⟩ <;> (have hc := hb; try simp only [go_sem] at hc)) | refine s_ret rfl ?_) | ((with_reducible refine Qb ?_ ?_); focus kernel_rfl) | ((with_reducible refine And.intro ?_ ?_); focus omega) | (refine contA_of hK ?_; clear hK K'; simp only [go_sem, *]) | (simp only [thenA, inBlockA, go_sem, *]))
    ·refine ⟨_, (by omega), [some 0, some 3], [], _, _, _, (by (simp only [Weak, go_sem, List.map_append, List.map_set, *] <;> (try simp (disch := omega) only [wrap_succ]) <;> (try simp) <;> (try omega))), o + 1, acc ++ [⟨4, s, o, zeroPlate, zeroPlate⟩], rfl, (by omega), (by rw [← hR, joinFrom_in (o := o) (by assumption) (by omega)]; simp), rfl, rfl, rfl⟩
    ·refine ⟨_, (by omega), [some 0, some 1], [], _, _, _, (by (simp only [Weak, go_sem, List.map_append, List.map_set, *] <;> (try simp (disch := omega) only [wrap_succ]) <;> (try simp) <;> (try omega))), o + 1, acc, rfl, (by omega), (by rw [← hR, joinFrom_out (o := o) (by assumption) (by omega)]), rfl, rfl, rfl⟩
    ·rw [joinFrom_end (by omega), List.nil_append] at hR
     refine ⟨_, (by omega), [some 0, some 1], [], _, _, _, (by (simp only [Weak, go_sem, List.map_append, List.map_set, *] <;> (try simp (disch := omega) only [wrap_succ]) <;> (try simp) <;> (try omega))), s + 1, acc, rfl, (by omega), (by simpa using hR), rfl, rfl, rfl⟩
   ·by_cases k5 : kk = 5 ∨ kk = 6
    ·rw [guessAt_each k4 k5] at hQ
     generalize hll : p.getD s default = l at *
     have hd : (kk == 4) = false := by simpa using k4
     rcases k5 with k5 | k5
     ·have h5 : (kk == 5) = true := by simp [k5]
      clear k5
      repeat' (first | (with_reducible (show runOps ..); first | (refine Qr rfl ?_; try intro K' hK; try simp only [go_sem, *])) | (with_reducible (show Hold ..); first | refine Qh rfl ?_ | (refine s_cond rfl ⟨_, rfl, fun hb => ?_, fun hb => ?_⟩ <;> (have hc := hb; try simp only [go_sem] at hc)) | refine s_ret rfl ?_) | ((with_reducible refine Qb ?_ ?_); focus kernel_rfl) | ((with_reducible refine And.intro ?_ ?_); focus omega) | (refine contA_of hK ?_; clear hK K'; simp only [go_sem, *]) | (simp only [thenA, inBlockA, go_sem, *]))
      refine s_loop rfl (fun zn zN zenv zAs => ∃ (o : Nat) (acc : List Change), zn = (l.length) - o ∧ o ≤ (l.length) ∧ (acc ++ ((l.drop o).map (fun x => (⟨kk, s, 0, x, zeroPlate⟩ : Change)) ++ guessFrom kk p (s + 1)) ++ guessK (6 - (m + 1)) p = guessL p) ∧ zN = 67 ∧ zenv = [(53, iV o), (52, iV l.length), (51, encStreet l), (5, iV s), (17, iV s), (16, iV p.length), (15, .list (p.map encStreet)), (4, iV kk), (3, .own 1 7 0 acc.length), (1, .ptr 0 0)] ∧ zAs = [pBox p, .row 7 (acc.map Change.enc)]) (l.length) ⟨[some 0, some 1], [], _, _, _, (by (simp only [Weak, go_sem, List.map_append, List.map_set, *] <;> (try simp (disch := omega) only [wrap_succ]) <;> (try simp) <;> (try omega))), 0, acc, (by simp), (by simp), (by simpa using hQ), rfl, rfl, rfl⟩ ?_; rintro _ _ _ _ ⟨o, acc, rfl, ho, hR, rfl, rfl, rfl⟩
      clear hQ hqle
      have hqle := congrArg List.length hR
      simp only [List.length_append] at hqle
      unfold guessL at hqle
      repeat' (first | (with_reducible (show runOps ..); first | (refine Qr rfl ?_; try intro K' hK; try simp only [go_sem, *])) | (with_reducible (show Hold ..); first | refine Qh rfl ?_ | (refine s_cond rfl ⟨_, rfl, fun hb => ?_, fun hb => ?_⟩ <;> (have hc := hb; try simp only [go_sem] at hc)) | refine s_ret rfl ?_) | ((with_reducible refine Qb ?_ ?_); focus kernel_rfl) | ((with_reducible refine And.intro ?_ ?_); focus omega) | (refine contA_of hK ?_; clear hK K'; simp only [go_sem, *]) | (simp only [thenA, inBlockA, go_sem, *]))
      ·have ed : l.drop o = l.getD o default :: l.drop (o + 1) := drop_cons (by assumption)
       refine ⟨_, (by omega), [some 0, some 4], [], _, _, _, (by (simp only [Weak, go_sem, List.map_append, List.map_set, *] <;> (try simp (disch := omega) only [wrap_succ]) <;> (try simp) <;> (try omega))), o + 1, acc ++ [⟨kk, s, 0, l.getD o default, zeroPlate⟩], rfl, (by omega), (by rw [← hR, ed]; simp), rfl, rfl, rfl⟩
      ·rw [drop_end (by omega), List.map_nil, List.nil_append] at hR
       refine ⟨_, (by omega), [some 0, some 1], [], _, _, _, (by (simp only [Weak, go_sem, List.map_append, List.map_set, *] <;> (try simp (disch := omega) only [wrap_succ]) <;> (try simp) <;> (try omega))), s + 1, acc, rfl, (by omega), (by simpa using hR), rfl, rfl, rfl⟩
     ·have h5 : (kk == 5) = false := by simp [k5]
      have h6 : (kk == 6) = true := by simp [k5]
      clear k5
      repeat' (first | (with_reducible (show runOps ..); first | (refine Qr rfl ?_; try intro K' hK; try simp only [go_sem, *])) | (with_reducible (show Hold ..); first | refine Qh rfl ?_ | (refine s_cond rfl ⟨_, rfl, fun hb => ?_, fun hb => ?_⟩ <;> (have hc := hb; try simp only [go_sem] at hc)) | refine s_ret rfl ?_) | ((with_reducible refine Qb ?_ ?_); focus kernel_rfl) | ((with_reducible refine And.intro ?_ ?_); focus omega) | (refine contA_of hK ?_; clear hK K'; simp only [go_sem, *]) | (simp only [thenA, inBlockA, go_sem, *]))
      refine s_loop rfl (fun zn zN zenv zAs => ∃ (o : Nat) (acc : List Change), zn = (l.length) - o ∧ o ≤ (l.length) ∧ (acc ++ ((l.drop o).map (fun x => (⟨kk, s, 0, x, zeroPlate⟩ : Change)) ++ guessFrom kk p (s + 1)) ++ guessK (6 - (m + 1)) p = guessL p) ∧ zN = 67 ∧ zenv = [(53, iV o), (52, iV l.length), (51, encStreet l), (5, iV s), (17, iV s), (16, iV p.length), (15, .list (p.map encStreet)), (4, iV kk), (3, .own 1 7 0 acc.length), (1, .ptr 0 0)] ∧ zAs = [pBox p, .row 7 (acc.map Change.enc)]) (l.length) ⟨[some 0, some 1], [], _, _, _, (by (simp only [Weak, go_sem, List.map_append, List.map_set, *] <;> (try simp (disch := omega) only [wrap_succ]) <;> (try simp) <;> (try omega))), 0, acc, (by simp), (by simp), (by simpa using hQ), rfl, rfl, rfl⟩ ?_; rintro _ _ _ _ ⟨o, acc, rfl, ho, hR, rfl, rfl, rfl⟩
      clear hQ hqle
      have hqle := congrArg List.length hR
      simp only [List.length_append] at hqle
      unfold guessL at hqle
      repeat' (first | (with_reducible (show runOps ..); first | (refine Qr rfl ?_; try intro K' hK; try simp only [go_sem, *])) | (with_reducible (show Hold ..); first | refine Qh rfl ?_ | (refine s_cond rfl ⟨_, rfl, fun hb => ?_, fun hb => ?_⟩ <;> (have hc := hb; try simp only [go_sem] at hc)) | refine s_ret rfl ?_) | ((with_reducible refine Qb ?_ ?_); focus kernel_rfl) | ((with_reducible refine And.intro ?_ ?_); focus omega) | (refine contA_of hK ?_; clear hK K'; simp only [go_sem, *]) | (simp only [thenA, inBlockA, go_sem, *]))
      ·have ed : l.drop o = l.getD o default :: l.drop (o + 1) := drop_cons (by assumption)
       refine ⟨_, (by omega), [some 0, some 4], [], _, _, _, (by (simp only [Weak, go_sem, List.map_append, List.map_set, *] <;> (try simp (disch := omega) only [wrap_succ]) <;> (try simp) <;> (try omega))), o + 1, acc ++ [⟨kk, s, 0, l.getD o default, zeroPlate⟩], rfl, (by omega), (by rw [← hR, ed]; simp), rfl, rfl, rfl⟩
      ·rw [drop_end (by omega), List.map_nil, List.nil_append] at hR
       refine ⟨_, (by omega), [some 0, some 1], [], _, _, _, (by (simp only [Weak, go_sem, List.map_append, List.map_set, *] <;> (try simp (disch := omega) only [wrap_succ]) <;> (try simp) <;> (try omega))), s + 1, acc, rfl, (by omega), (by simpa using hR), rfl, rfl, rfl⟩
    ·rw [guessAt_else k4 k5] at hQ
     have h4 : (kk == 4) = false := by simpa using k4
     have h5 : (kk == 5) = false := by simp only [not_or] at k5; simpa using k5.1
     have h6 : (kk == 6) = false := by simp only [not_or] at k5; simpa using k5.2
     repeat' (first | (with_reducible (show runOps ..); first | (refine Qr rfl ?_; try intro K' hK; try simp only [go_sem, *])) | (with_reducible (show Hold ..); first | refine Qh rfl ?_ | (refine s_cond rfl ⟨_, rfl, fun hb => ?_, fun hb => ?_⟩ <;> (have hc := hb; try simp only [go_sem] at hc)) | refine s_ret rfl ?_) | ((with_reducible refine Qb ?_ ?_); focus kernel_rfl) | ((with_reducible refine And.intro ?_ ?_); focus omega) | (refine contA_of hK ?_; clear hK K'; simp only [go_sem, *]) | (simp only [thenA, inBlockA, go_sem, *]))
     refine ⟨_, (by omega), [some 0, some 3], [], _, _, _, (by (simp only [Weak, go_sem, List.map_append, List.map_set, *] <;> (try simp (disch := omega) only [wrap_succ]) <;> (try simp) <;> (try omega))), s + 1, acc ++ [⟨kk, s, 0, zeroPlate, zeroPlate⟩], rfl, (by omega), (by simpa using hQ), rfl, rfl, rfl⟩
  ·repeat' (first | (with_reducible (show runOps ..); first | (refine Qr rfl ?_; try intro K' hK; try simp only [go_sem, *])) | (with_reducible (show Hold ..); first | refine Qh rfl ?_ | (refine s_cond rfl ⟨_, rfl, fun hb => ?_, fun hb => ?_⟩ <;> (have hc := hb; try simp only [go_sem] at hc)) | refine s_ret rfl ?_) | ((with_reducible refine Qb ?_ ?_); focus kernel_rfl) | ((with_reducible refine And.intro ?_ ?_); focus omega) | (refine contA_of hK ?_; clear hK K'; simp only [go_sem, *]) | (simp only [thenA, inBlockA, go_sem, *]))
   rw [guessFrom_end (by omega), List.nil_append] at hQ
   refine ⟨_, (by omega), [some 0, some 1], [], _, _, _, (by (simp only [Weak, go_sem, List.map_append, List.map_set, *] <;> (try simp (disch := omega) only [wrap_succ]) <;> (try simp) <;> (try omega))), m + 1, acc, rfl, (by omega), (by exact hQ), rfl, rfl, rfl⟩
 ·refine ⟨[_], [], [1], ⟨rfl, trivial⟩, ?_⟩
  have h6 : 6 - m = 0 := by omega
  rw [h6] at hP
  simp only [guessK, List.append_nil] at hP
  simp only [go_sem, hP, *]
  simp
end Go.Abs

namespace Go.Abs
open Go Go.Proofs
set_option maxRecDepth 10000
theorem filter_flatMap' {α β : Type} (f : α → List β) (p : β → Bool) : ∀ l : List α, (l.flatMap f).filter p = l.flatMap fun a => (f a).filter p
 | [] => rfl
 | a :: r => by simp only [List.flatMap_cons, List.filter_append, filter_flatMap' f p r]
theorem flatMap_congr' {α β : Type} {f g : α → List β} : ∀ {l : List α}, (∀ a, a ∈ l → f a = g a) → l.flatMap f = l.flatMap g
 | [], _ => rfl
 | a :: r, h => by
  have e1 := h a (by simp)
  have e2 := flatMap_congr' (l := r) (fun b hb => h b (by simp [hb]))
  rw [List.flatMap_cons, List.flatMap_cons, e1, e2]
theorem can_repeated {p : Plan} {s : Int} : can p ⟨4, s, s, zeroPlate, zeroPlate⟩ ≠ 0 := by
 unfold can
 simp only
 split
 ·omega
 split
 ·omega
 split
 ·omega
 rw [if_pos (by simp)]; omega
theorem guessAt_filter (kind : Int) (p : Plan) (s : Nat) : (guessAt kind p s).filter (fun c => decide (can p c = 0)) = (changesAt kind p s).filter (fun c => decide (can p c = 0)) := by
 unfold guessAt changesAt
 split
 ·rw [List.filter_map, List.filter_map, List.filter_filter]
  congr 1
  refine List.filter_congr (fun o _ => ?_)
  simp only [Function.comp]
  by_cases e : o = s
  ·subst e
   have := @can_repeated p (o : Int)
   simp [this]
  ·simp [e]
 ·rfl
theorem guessL_eq (p : Plan) : guessL p = ([1, 2, 3, 4, 5, 6] : List Int).flatMap fun k => guessFrom k p 0 := by
 simp [guessL, guessK]
theorem changesOf_eq (p : Plan) : changesOf p = (guessL p).filter (fun c => decide (can p c = 0)) := by
 rw [guessL_eq, filter_flatMap']
 unfold changesOf
 refine flatMap_congr' (fun k _ => ?_)
 unfold guessFrom
 rw [filter_flatMap', Nat.sub_zero, ← List.range_eq_range']
 exact flatMap_congr' (fun s _ => (guessAt_filter k p s).symm)
theorem firstSome_in {α β : Type} {f : α → Option β} : ∀ {l : List α} {b : β}, firstSome f l = some b → ∃ a, a ∈ l ∧ f a = some b
 | [], _, h => by simp [firstSome] at h
 | a :: r, b, h => by
  rw [firstSome] at h
  cases e : f a with
  | some x => rw [e] at h; simp only [Option.some.injEq] at h; subst h; exact ⟨a, by simp, e⟩
  | none =>
   rw [e] at h
   obtain ⟨c, hc1, hc2⟩ := firstSome_in h
   exact ⟨c, by simp [hc1], hc2⟩
theorem guessN_len : ∀ {n : Nat} {p q : Plan} {l : List Change}, guessN n p q = some l → l.length ≤ n
 | 0, p, q, l, h => by
  unfold guessN at h
  split at h
  ·simp at h; subst h; simp
  ·simp at h
 | n + 1, p, q, l, h => by
  rw [guessN] at h
  obtain ⟨c, _, h2⟩ := firstSome_in h
  cases e : guessN n (afterOf p c) q with
  | none => rw [e] at h2; simp at h2
  | some r =>
   rw [e] at h2
   simp at h2
   subst h2
   have := guessN_len e
   simp; omega
def optL (o : Option (List Change)) : List Change := o.getD []
@[go_sem] theorem optL_some (l : List Change) : optL (some l) = l := rfl
@[go_sem] theorem optL_none : optL none = [] := rfl
theorem sp_path : ∀ (n : Nat), n ≤ 2 → ∀ (p q : Plan), Valid p → Spec Tryz.prog 96 [encPlan p, encPlan q, iV n] [] (.tup [.list ((optL (guessN n p q)).map Change.enc), bV (guessN n p q).isSome]) []
 | 0, _, p, q, v => by
  have e1 : (guessN 0 p q).isSome = decide (p = q) := by unfold guessN; split <;> simp [*]
  have e2 : optL (guessN 0 p q) = [] := by unfold guessN; split <;> rfl
  refine spec_body Tryz.func96 rfl (fun E hE => ?_); simp only [go_sem, Tryz.ntmps96]
  repeat' (first | (with_reducible (show runOps ..); first | (refine Qr rfl ?_; try intro K' hK; try simp only [go_sem, *])) | (with_reducible (show Hold ..); first | refine Qh rfl ?_ | refine s_draw rfl Tryz.mixed (by kernel_rfl) ?_ | (refine s_cond rfl ⟨_, rfl, fun hb => ?_, fun hb => ?_⟩ <;> (have hc := hb; try simp only [go_sem] at hc)) | refine s_ret rfl ?_) | (with_reducible (show callA ..); first | (refine call_s (sp_same p q (by have := v.len; omega) (fun l hl => by have := (v.rows l hl).len; omega)) ?_ ?_; (focus (simp only [go_sem, *]; done)); simp only [go_sem, *])) | ((with_reducible refine Qb ?_ ?_); focus kernel_rfl) | ((with_reducible refine And.intro ?_ ?_); focus omega) | (refine contA_of hK ?_; clear hK K'; simp only [go_sem, *]) | (simp only [thenA, inBlockA, go_sem, *]))
  (refine ⟨[_, _], [], [], ⟨rfl, rfl, trivial⟩, ?_⟩; simp only [go_sem, *])
 | n + 1, hn, p, q, v => by
  have IH := sp_path n (by omega)
  have hw : IntKind.i64.wrap (((n + 1 : Nat) : Int) - 1) = (n : Int) := by rw [wrap_i64 (by omega) (by omega)]; omega
  have hn0 : (((n + 1 : Nat) : Int) == 0) = false := by simp; omega
  have hgl := guessK_len v 6
  have hglL : (guessL p).length ≤ 144 := hgl
  have hG : guessN (n + 1) p q = firstSome (fun c => (guessN n (afterOf p c) q).map (c :: ·)) ((guessL p).filter (fun c => decide (can p c = 0))) := by
   rw [guessN, changesOf_eq]
  obtain ⟨G, hGe⟩ : ∃ G, G = guessN (n + 1) p q := ⟨_, rfl⟩
  rw [← hGe] at hG ⊢
  clear hGe
  have hG0 : firstSome (fun c => (guessN n (afterOf p c) q).map (c :: ·)) (((guessL p).drop 0).filter (fun c => decide (can p c = 0))) = G := hG.symm
  clear hG
  refine spec_body Tryz.func96 rfl (fun E hE => ?_); simp only [go_sem, Tryz.ntmps96]
  repeat' (first | (with_reducible (show runOps ..); first | (refine Qr rfl ?_; try intro K' hK; try simp only [go_sem, *])) | (with_reducible (show Hold ..); first | refine Qh rfl ?_ | refine s_draw rfl Tryz.mixed (by kernel_rfl) ?_ | (refine s_cond rfl ⟨_, rfl, fun hb => ?_, fun hb => ?_⟩ <;> (have hc := hb; try simp only [go_sem] at hc)) | refine s_ret rfl ?_) | (with_reducible (show callA ..); first | (refine call_s (sp_guesses p v) ?_ ?_; (focus (simp only [go_sem, *]; done)); simp only [go_sem, *])) | ((with_reducible refine Qb ?_ ?_); focus kernel_rfl) | ((with_reducible refine And.intro ?_ ?_); focus omega) | (refine contA_of hK ?_; clear hK K'; simp only [go_sem, *]) | (simp only [thenA, inBlockA, go_sem, *]))
  refine s_loop rfl (fun zn zN zenv zAs => ∃ (i : Nat), zn = ((guessL p).length) - i ∧ i ≤ ((guessL p).length) ∧ (firstSome (fun c => (guessN n (afterOf p c) q).map (c :: ·)) (((guessL p).drop i).filter (fun c => decide (can p c = 0))) = G) ∧ zN = 52 ∧ zenv = [(22, iV i), (21, iV (guessL p).length), (20, .list ((guessL p).map Change.enc)), (2, iV (n + 1 : Nat)), (3, .ptr 0 0), (4, .ptr 1 0)] ∧ zAs = [pBox p, pBox q]) ((guessL p).length) ⟨[some 0, some 1], [], _, _, _, (by (simp only [Weak, go_sem, List.map_append, List.map_set, *] <;> (try simp (disch := omega) only [wrap_succ]) <;> (try simp) <;> (try omega))), 0, (by simp), (by simp), (by exact hG0), rfl, rfl, rfl⟩ ?_; rintro _ _ _ _ ⟨i, rfl, hi, hP, rfl, rfl, rfl⟩
  by_cases hi2 : i < (guessL p).length
  ·obtain ⟨s1, s2⟩ := sp_effect_all p ((guessL p).getD i default) v
   rw [drop_cons hi2] at hP
   by_cases hcan : can p ((guessL p).getD i default) = 0
   ·have s := s2 hcan
    have f := Fit.of_can hcan
    have sa := sp_after p _ v f
    have sr := IH (afterOf p ((guessL p).getD i default)) q (valid_after v f)
    rw [List.filter_cons, if_pos (by simpa using hcan)] at hP
    clear s1 s2 hcan IH
    repeat' (first | (with_reducible (show runOps ..); first | (refine Qr rfl ?_; try intro K' hK; try simp only [go_sem, *])) | (with_reducible (show Hold ..); first | refine Qh rfl ?_ | refine s_draw rfl Tryz.mixed (by kernel_rfl) ?_ | (refine s_cond rfl ⟨_, rfl, fun hb => ?_, fun hb => ?_⟩ <;> (have hc := hb; try simp only [go_sem] at hc)) | refine s_ret rfl ?_) | (with_reducible (show callA ..); first | (refine call_n (s) ?_ ?_ ?_ ?_; (focus (simp only [go_sem, *]; done)); (focus (first | (simp; done) | (simp [go_sem]; done))); (focus (first | (simp; done) | (simp [go_sem]; done))); simp only [go_sem, *])) | ((with_reducible refine Qb ?_ ?_); focus kernel_rfl) | ((with_reducible refine And.intro ?_ ?_); focus omega) | (refine contA_of hK ?_; clear hK K'; simp only [go_sem, *]) | (simp only [thenA, inBlockA, go_sem, *]))
    refine call_fz (gone := [3]) sa (by simp only [go_sem]) (by simp only [go_sem]) (by simp only [go_sem]) (by simp) (by simp) ?_
    simp only [go_sem, deads]
    cases hgn : guessN n (afterOf p ((guessL p).getD i default)) q with
    | none =>
     rw [hgn] at sr
     rw [firstSome, hgn] at hP
     simp only [Option.map_none] at hP
     repeat' (first | (with_reducible (show runOps ..); first | (refine Qr rfl ?_; try intro K' hK; try simp only [go_sem, *])) | (with_reducible (show Hold ..); first | refine Qh rfl ?_ | refine s_draw rfl Tryz.mixed (by kernel_rfl) ?_ | (refine s_cond rfl ⟨_, rfl, fun hb => ?_, fun hb => ?_⟩ <;> (have hc := hb; try simp only [go_sem] at hc)) | refine s_ret rfl ?_) | (with_reducible (show callA ..); first | (refine call_s (sr) ?_ ?_; (focus (simp only [go_sem, *]; done)); simp only [go_sem, *])) | ((with_reducible refine Qb ?_ ?_); focus kernel_rfl) | ((with_reducible refine And.intro ?_ ?_); focus omega) | (refine contA_of hK ?_; clear hK K'; simp only [go_sem, *]) | (simp only [thenA, inBlockA, go_sem, *]))
     all_goals first | contradiction | skip
     refine ⟨_, (by omega), [some 0, some 1], [], _, _, _, (by (simp only [Weak, go_sem, List.map_append, List.map_set, *] <;> (try simp (disch := omega) only [wrap_succ]) <;> (try simp) <;> (try omega))), i + 1, rfl, (by omega), (by exact hP), rfl, rfl, rfl⟩
    | some l =>
     rw [hgn] at sr
     rw [firstSome, hgn] at hP
     simp only [Option.map_some] at hP
     have hll := guessN_len hgn
     subst hP
     repeat' (first | (with_reducible (show runOps ..); first | (refine Qr rfl ?_; try intro K' hK; try simp only [go_sem, *])) | (with_reducible (show Hold ..); first | refine Qh rfl ?_ | refine s_draw rfl Tryz.mixed (by kernel_rfl) ?_ | (refine s_cond rfl ⟨_, rfl, fun hb => ?_, fun hb => ?_⟩ <;> (have hc := hb; try simp only [go_sem] at hc)) | refine s_ret rfl ?_) | (with_reducible (show callA ..); first | (refine call_s (sr) ?_ ?_; (focus (simp only [go_sem, *]; done)); simp only [go_sem, *])) | ((with_reducible refine Qb ?_ ?_); focus kernel_rfl) | ((with_reducible refine And.intro ?_ ?_); focus omega) | (refine contA_of hK ?_; clear hK K'; simp only [go_sem, *]) | (simp only [thenA, inBlockA, go_sem, *]))
     all_goals first | contradiction | skip
     refine ⟨fun y hy => ?_, fun y hy => ?_, by omega, Nat.le_trans (by omega) (by decide : 3 ≤ 9223372036854775807), ?_⟩
     ·obtain ⟨c, _, rfl⟩ := List.mem_map.1 hy
      simp [Change.enc, go_sem]
     ·obtain ⟨c, _, rfl⟩ := List.mem_map.1 hy
      simp [Change.enc, go_sem]
     ·repeat' (first | (with_reducible (show runOps ..); first | (refine Qr rfl ?_; try intro K' hK; try simp only [go_sem, *])) | (with_reducible (show Hold ..); first | refine Qh rfl ?_ | refine s_draw rfl Tryz.mixed (by kernel_rfl) ?_ | (refine s_cond rfl ⟨_, rfl, fun hb => ?_, fun hb => ?_⟩ <;> (have hc := hb; try simp only [go_sem] at hc)) | refine s_ret rfl ?_) | ((with_reducible refine Qb ?_ ?_); focus kernel_rfl) | ((with_reducible refine And.intro ?_ ?_); focus omega) | (refine contA_of hK ?_; clear hK K'; simp only [go_sem, *]) | (simp only [thenA, inBlockA, go_sem, *]))
      refine ⟨[_, _], [], [5], ⟨rfl, rfl, trivial⟩, ?_⟩
      simp only [go_sem, *]
      simp [Nat.add_comm, Change.enc, List.take_of_length_le]
   ·have s := s1 hcan
    rw [List.filter_cons, if_neg (by simpa using hcan)] at hP
    clear s1 s2 IH
    repeat' (first | (with_reducible (show runOps ..); first | (refine Qr rfl ?_; try intro K' hK; try simp only [go_sem, *])) | (with_reducible (show Hold ..); first | refine Qh rfl ?_ | refine s_draw rfl Tryz.mixed (by kernel_rfl) ?_ | (refine s_cond rfl ⟨_, rfl, fun hb => ?_, fun hb => ?_⟩ <;> (have hc := hb; try simp only [go_sem] at hc)) | refine s_ret rfl ?_) | (with_reducible (show callA ..); first | (refine call_s (s) ?_ ?_; (focus (simp only [go_sem, *]; done)); simp only [go_sem, *])) | ((with_reducible refine Qb ?_ ?_); focus kernel_rfl) | ((with_reducible refine And.intro ?_ ?_); focus omega) | (refine contA_of hK ?_; clear hK K'; simp only [go_sem, *]) | (simp only [thenA, inBlockA, go_sem, *]))
    all_goals first | contradiction | skip
    refine ⟨_, (by omega), [some 0, some 1], [], _, _, _, (by (simp only [Weak, go_sem, List.map_append, List.map_set, *] <;> (try simp (disch := omega) only [wrap_succ]) <;> (try simp) <;> (try omega))), i + 1, rfl, (by omega), (by exact hP), rfl, rfl, rfl⟩
  ·rw [drop_end (by omega), List.filter_nil, firstSome] at hP
   subst hP
   repeat' (first | (with_reducible (show runOps ..); first | (refine Qr rfl ?_; try intro K' hK; try simp only [go_sem, *])) | (with_reducible (show Hold ..); first | refine Qh rfl ?_ | refine s_draw rfl Tryz.mixed (by kernel_rfl) ?_ | (refine s_cond rfl ⟨_, rfl, fun hb => ?_, fun hb => ?_⟩ <;> (have hc := hb; try simp only [go_sem] at hc)) | refine s_ret rfl ?_) | ((with_reducible refine Qb ?_ ?_); focus kernel_rfl) | ((with_reducible refine And.intro ?_ ?_); focus omega) | (refine contA_of hK ?_; clear hK K'; simp only [go_sem, *]) | (simp only [thenA, inBlockA, go_sem, *]))
   (refine ⟨[_, _], [], [], ⟨rfl, rfl, trivial⟩, ?_⟩; simp only [go_sem, *])
   all_goals simp
def guessErr (p q : Plan) : Int :=
 if check p = 0 then if check q = 0 then if p.length = q.length then if (guessOf p q).isSome then 0 else 11 else 11 else check q else check p
theorem sp_Guess_found (p q : Plan) (h1 : check p = 0) (h2 : check q = 0) (h3 : p.length = q.length) (G : Option (List Change)) (hG : firstSome (fun n => guessN n p q) ([0, 1, 2].drop 0) = G) :
  Spec Tryz.prog 31 [encPlan p, encPlan q] [] (.tup [.list ((optL G).map Change.enc), iV (if G.isSome = true then 0 else 11)]) [] := by
 have v := (check_zero p).1 h1
 have w := (check_zero q).1 h2
 have s1 := sp_Check p (by have := v.len; omega)
 have s2 := sp_Check q (by have := w.len; omega)
 have s3 := fun n hn => sp_path n hn p q v
 rw [h1] at s1
 rw [h2] at s2
 clear h1 h2 w
 refine spec_body Tryz.func31 rfl (fun E hE => ?_); simp only [go_sem, Tryz.ntmps31]
 repeat' (first | (with_reducible (show runOps ..); first | (refine Qr rfl ?_; try intro K' hK; try simp only [go_sem, *])) | (with_reducible (show Hold ..); first | refine Qh rfl ?_ | (refine s_cond rfl ⟨_, rfl, fun hb => ?_, fun hb => ?_⟩ <;> (have hc := hb; try simp only [go_sem] at hc)) | refine s_ret rfl ?_) | (with_reducible (show callA ..); first | ((first | refine call_s (s1) ?_ ?_ | refine call_s (s2) ?_ ?_); (focus (simp only [go_sem, *]; done)); simp only [go_sem, *])) | ((with_reducible refine Qb ?_ ?_); focus kernel_rfl) | ((with_reducible refine And.intro ?_ ?_); focus omega) | (refine contA_of hK ?_; clear hK K'; simp only [go_sem, *]) | (simp only [thenA, inBlockA, go_sem, *]))
 refine s_loop rfl (fun zn zN zenv zAs => ∃ (i : Nat), zn = (3) - i ∧ i ≤ (3) ∧ (firstSome (fun n => guessN n p q) ([0, 1, 2].drop i) = G) ∧ zN = 41 ∧ zenv = [(28, iV i), (2, .ptr 0 0), (3, .ptr 1 0)] ∧ zAs = [pBox p, pBox q]) (3) ⟨[some 0, some 1], [], _, _, _, (by (simp only [Weak, go_sem, List.map_append, List.map_set, *] <;> (try simp (disch := omega) only [wrap_succ]) <;> (try simp) <;> (try omega))), 0, (by simp), (by simp), (by exact hG), rfl, rfl, rfl⟩ ?_; rintro _ _ _ _ ⟨i, rfl, hi, hP, rfl, rfl, rfl⟩
 by_cases hi2 : i < 3
 ·have s := s3 i (by omega)
  have hi3 : (i : Int) < 3 := by omega
  have hd : ([0, 1, 2] : List Nat).drop i = i :: [0, 1, 2].drop (i + 1) := by
   match i, hi2 with
   | 0, _ => rfl
   | 1, _ => rfl
   | 2, _ => rfl
  rw [hd, firstSome] at hP
  cases hgn : guessN i p q with
  | none =>
   rw [hgn] at s hP
   simp only at hP
   repeat' (first | (with_reducible (show runOps ..); first | (refine Qr rfl ?_; try intro K' hK; try simp only [go_sem, *])) | (with_reducible (show Hold ..); first | refine Qh rfl ?_ | (refine s_cond rfl ⟨_, rfl, fun hb => ?_, fun hb => ?_⟩ <;> (have hc := hb; try simp only [go_sem] at hc)) | refine s_ret rfl ?_) | (with_reducible (show callA ..); first | (refine call_s (s) ?_ ?_; (focus (simp only [go_sem, *]; done)); simp only [go_sem, *])) | ((with_reducible refine Qb ?_ ?_); focus kernel_rfl) | ((with_reducible refine And.intro ?_ ?_); focus omega) | (refine contA_of hK ?_; clear hK K'; simp only [go_sem, *]) | (simp only [thenA, inBlockA, go_sem, *]))
   all_goals first | contradiction | skip
   refine ⟨_, (by omega), [some 0, some 1], [], _, _, _, (by (simp only [Weak, go_sem, List.map_append, List.map_set, *] <;> (try simp (disch := omega) only [wrap_succ]) <;> (try simp) <;> (try omega))), i + 1, rfl, (by omega), (by exact hP), rfl, rfl, rfl⟩
  | some l =>
   rw [hgn] at s hP
   simp only at hP
   subst hP
   repeat' (first | (with_reducible (show runOps ..); first | (refine Qr rfl ?_; try intro K' hK; try simp only [go_sem, *])) | (with_reducible (show Hold ..); first | refine Qh rfl ?_ | (refine s_cond rfl ⟨_, rfl, fun hb => ?_, fun hb => ?_⟩ <;> (have hc := hb; try simp only [go_sem] at hc)) | refine s_ret rfl ?_) | (with_reducible (show callA ..); first | (refine call_s (s) ?_ ?_; (focus (simp only [go_sem, *]; done)); simp only [go_sem, *])) | ((with_reducible refine Qb ?_ ?_); focus kernel_rfl) | ((with_reducible refine And.intro ?_ ?_); focus omega) | (refine contA_of hK ?_; clear hK K'; simp only [go_sem, *]) | (simp only [thenA, inBlockA, go_sem, *]))
   all_goals first | contradiction | skip
   (refine ⟨[_, _], [], [], ⟨rfl, rfl, trivial⟩, ?_⟩; simp only [go_sem, *])
 ·have hi3 : ¬ (i : Int) < 3 := by omega
  rw [show ([0, 1, 2] : List Nat).drop i = [] from List.drop_of_length_le (by simp; omega), firstSome] at hP
  subst hP
  repeat' (first | (with_reducible (show runOps ..); first | (refine Qr rfl ?_; try intro K' hK; try simp only [go_sem, *])) | (with_reducible (show Hold ..); first | refine Qh rfl ?_ | (refine s_cond rfl ⟨_, rfl, fun hb => ?_, fun hb => ?_⟩ <;> (have hc := hb; try simp only [go_sem] at hc)) | refine s_ret rfl ?_) | ((with_reducible refine Qb ?_ ?_); focus kernel_rfl) | ((with_reducible refine And.intro ?_ ?_); focus omega) | (refine contA_of hK ?_; clear hK K'; simp only [go_sem, *]) | (simp only [thenA, inBlockA, go_sem, *]))
  (refine ⟨[_, _], [], [], ⟨rfl, rfl, trivial⟩, ?_⟩; simp only [go_sem, *])
  all_goals simp
theorem sp_Guess (p q : Plan) (hp : p.length ≤ 4294967296) (hq : q.length ≤ 4294967296) :
  Spec Tryz.prog 31 [encPlan p, encPlan q] [] (.tup [.list ((optL (if guessErr p q = 0 then guessOf p q else none)).map Change.enc), iV (guessErr p q)]) [] := by
 by_cases h1 : check p = 0
 ·by_cases h2 : check q = 0
  ·by_cases h3 : p.length = q.length
   ·have s := sp_Guess_found p q h1 h2 h3 (guessOf p q) rfl
    have e : guessErr p q = if (guessOf p q).isSome = true then 0 else 11 := by simp [guessErr, h1, h2, h3]
    rw [e]
    cases hg : guessOf p q with
    | none => rw [hg] at s; simpa using s
    | some l => rw [hg] at s; simpa using s
   ·have e : guessErr p q = 11 := by simp [guessErr, h1, h2, h3]
    have s1 := sp_Check p hp
    have s2 := sp_Check q hq
    rw [h1] at s1
    rw [h2] at s2
    rw [e, if_neg (by decide)]
    have h4 : ((p.length : Int) == (q.length : Int)) = false := by simp; omega
    clear h1 h2
    refine spec_body Tryz.func31 rfl (fun E hE => ?_); simp only [go_sem, Tryz.ntmps31]
    repeat' (first | (with_reducible (show runOps ..); first | (refine Qr rfl ?_; try intro K' hK; try simp only [go_sem, *])) | (with_reducible (show Hold ..); first | refine Qh rfl ?_ | (refine s_cond rfl ⟨_, rfl, fun hb => ?_, fun hb => ?_⟩ <;> (have hc := hb; try simp only [go_sem] at hc)) | refine s_ret rfl ?_) | (with_reducible (show callA ..); first | ((first | refine call_s (s1) ?_ ?_ | refine call_s (s2) ?_ ?_); (focus (simp only [go_sem, *]; done)); simp only [go_sem, *])) | ((with_reducible refine Qb ?_ ?_); focus kernel_rfl) | ((with_reducible refine And.intro ?_ ?_); focus omega) | (refine contA_of hK ?_; clear hK K'; simp only [go_sem, *]) | (simp only [thenA, inBlockA, go_sem, *]))
    all_goals first | contradiction | skip
    all_goals (refine ⟨[_, _], [], [], ⟨rfl, rfl, trivial⟩, ?_⟩; simp only [go_sem, *])
  ·have e : guessErr p q = check q := by simp [guessErr, h1, h2]
   have s1 := sp_Check p hp
   have s2 := sp_Check q hq
   rw [h1] at s1
   rw [e, if_neg h2]
   have h4 : (check q == 0) = false := by simpa using h2
   have h5 : (check q != 0) = true := by simpa using h2
   clear h1 e h2
   generalize check q = k at *
   refine spec_body Tryz.func31 rfl (fun E hE => ?_); simp only [go_sem, Tryz.ntmps31]
   repeat' (first | (with_reducible (show runOps ..); first | (refine Qr rfl ?_; try intro K' hK; try simp only [go_sem, *])) | (with_reducible (show Hold ..); first | refine Qh rfl ?_ | (refine s_cond rfl ⟨_, rfl, fun hb => ?_, fun hb => ?_⟩ <;> (have hc := hb; try simp only [go_sem] at hc)) | refine s_ret rfl ?_) | (with_reducible (show callA ..); first | ((first | refine call_s (s1) ?_ ?_ | refine call_s (s2) ?_ ?_); (focus (simp only [go_sem, *]; done)); simp only [go_sem, *])) | ((with_reducible refine Qb ?_ ?_); focus kernel_rfl) | ((with_reducible refine And.intro ?_ ?_); focus omega) | (refine contA_of hK ?_; clear hK K'; simp only [go_sem, *]) | (simp only [thenA, inBlockA, go_sem, *]))
   all_goals first | contradiction | skip
   all_goals (refine ⟨[_, _], [], [], ⟨rfl, rfl, trivial⟩, ?_⟩; simp only [go_sem, *])
 ·have e : guessErr p q = check p := by simp [guessErr, h1]
  have s1 := sp_Check p hp
  rw [e, if_neg h1]
  have h4 : (check p == 0) = false := by simpa using h1
  have h5 : (check p != 0) = true := by simpa using h1
  clear e h1
  generalize check p = k at *
  refine spec_body Tryz.func31 rfl (fun E hE => ?_); simp only [go_sem, Tryz.ntmps31]
  repeat' (first | (with_reducible (show runOps ..); first | (refine Qr rfl ?_; try intro K' hK; try simp only [go_sem, *])) | (with_reducible (show Hold ..); first | refine Qh rfl ?_ | (refine s_cond rfl ⟨_, rfl, fun hb => ?_, fun hb => ?_⟩ <;> (have hc := hb; try simp only [go_sem] at hc)) | refine s_ret rfl ?_) | (with_reducible (show callA ..); first | (refine call_s (s1) ?_ ?_; (focus (simp only [go_sem, *]; done)); simp only [go_sem, *])) | ((with_reducible refine Qb ?_ ?_); focus kernel_rfl) | ((with_reducible refine And.intro ?_ ?_); focus omega) | (refine contA_of hK ?_; clear hK K'; simp only [go_sem, *]) | (simp only [thenA, inBlockA, go_sem, *]))
  all_goals first | contradiction | skip
  all_goals (refine ⟨[_, _], [], [], ⟨rfl, rfl, trivial⟩, ?_⟩; simp only [go_sem, *])
end Go.Abs

namespace Go.Abs
open Go Go.Proofs
set_option maxRecDepth 10000
theorem sp_Clone_int (l : List Int) (h1 : l.length ≤ 4294967296) : Spec Tryz.prog 164 [.list (l.map iV)] [] (.own 0 1 0 l.length) [.row 1 (l.map iV)] := by
 cases l with
 | nil =>
  refine spec_nil1 (fun a c => ?_)
  refine spec_body Tryz.func164 rfl (fun E hE => ?_); simp only [go_sem, Tryz.ntmps164]
  repeat' (first | (with_reducible (show runOps ..); first | (refine Qr rfl ?_; try intro K' hK; try simp only [go_sem, *])) | (with_reducible (show Hold ..); first | refine Qh rfl ?_ | (refine s_cond rfl ⟨_, rfl, fun hb => ?_, fun hb => ?_⟩ <;> (have hc := hb; try simp only [go_sem] at hc)) | refine s_ret rfl ?_) | ((with_reducible refine Qb ?_ ?_); focus kernel_rfl) | ((with_reducible refine And.intro ?_ ?_); focus omega) | (refine contA_of hK ?_; clear hK K'; simp only [go_sem, *]) | (simp only [thenA, inBlockA, go_sem, *]))
  ·refine ⟨[_], [none], [], ⟨rfl, trivial⟩, ?_⟩
   simp only [go_sem, *]
   simp
  ·refine ⟨[_], [some 1], [], ⟨rfl, trivial⟩, ?_⟩
   simp only [go_sem, *]
 | cons x r =>
  have h2 : r.length + 1 ≤ 4294967296 := by simpa using h1
  refine spec_body Tryz.func164 rfl (fun E hE => ?_); simp only [go_sem, Tryz.ntmps164]
  repeat' (first | (with_reducible (show runOps ..); first | (refine Qr rfl ?_; try intro K' hK; try simp only [go_sem, *])) | (with_reducible (show Hold ..); first | refine Qh rfl ?_ | (refine s_cond rfl ⟨_, rfl, fun hb => ?_, fun hb => ?_⟩ <;> (have hc := hb; try simp only [go_sem] at hc)) | refine s_ret rfl ?_) | ((with_reducible refine Qb ?_ ?_); focus kernel_rfl) | ((with_reducible refine And.intro ?_ ?_); focus omega) | (refine contA_of hK ?_; clear hK K'; simp only [go_sem, *]) | (simp only [thenA, inBlockA, go_sem, *]))
  all_goals first | contradiction | skip
  refine ⟨fun y hy => ?_, fun y hy => ?_, by omega, by omega, ?_⟩
  ·obtain ⟨z, _, rfl⟩ := List.mem_map.1 hy
   simp [go_sem]
  ·obtain ⟨z, _, rfl⟩ := List.mem_map.1 hy
   simp [go_sem]
  ·repeat' (first | (with_reducible (show runOps ..); first | (refine Qr rfl ?_; try intro K' hK; try simp only [go_sem, *])) | (with_reducible (show Hold ..); first | refine Qh rfl ?_ | (refine s_cond rfl ⟨_, rfl, fun hb => ?_, fun hb => ?_⟩ <;> (have hc := hb; try simp only [go_sem] at hc)) | refine s_ret rfl ?_) | ((with_reducible refine Qb ?_ ?_); focus kernel_rfl) | ((with_reducible refine And.intro ?_ ?_); focus omega) | (refine contA_of hK ?_; clear hK K'; simp only [go_sem, *]) | (simp only [thenA, inBlockA, go_sem, *]))
   refine ⟨[_], [some 1], [], ⟨rfl, trivial⟩, ?_⟩
   simp only [go_sem, *]
theorem sp_Clone_plate (l : List Plate) (h1 : l.length ≤ 4294967296) : Spec Tryz.prog 147 [.list (l.map Plate.enc)] [] (.own 0 2 0 l.length) [.row 2 (l.map Plate.enc)] := by
 cases l with
 | nil =>
  refine spec_nil1 (fun a c => ?_)
  refine spec_body Tryz.func147 rfl (fun E hE => ?_); simp only [go_sem, Tryz.ntmps147]
  repeat' (first | (with_reducible (show runOps ..); first | (refine Qr rfl ?_; try intro K' hK; try simp only [go_sem, *])) | (with_reducible (show Hold ..); first | refine Qh rfl ?_ | (refine s_cond rfl ⟨_, rfl, fun hb => ?_, fun hb => ?_⟩ <;> (have hc := hb; try simp only [go_sem] at hc)) | refine s_ret rfl ?_) | ((with_reducible refine Qb ?_ ?_); focus kernel_rfl) | ((with_reducible refine And.intro ?_ ?_); focus omega) | (refine contA_of hK ?_; clear hK K'; simp only [go_sem, *]) | (simp only [thenA, inBlockA, go_sem, *]))
  ·refine ⟨[_], [none], [], ⟨rfl, trivial⟩, ?_⟩
   simp only [go_sem, *]
   simp
  ·refine ⟨[_], [some 1], [], ⟨rfl, trivial⟩, ?_⟩
   simp only [go_sem, *]
 | cons x r =>
  have h2 : r.length + 1 ≤ 4294967296 := by simpa using h1
  refine spec_body Tryz.func147 rfl (fun E hE => ?_); simp only [go_sem, Tryz.ntmps147]
  repeat' (first | (with_reducible (show runOps ..); first | (refine Qr rfl ?_; try intro K' hK; try simp only [go_sem, *])) | (with_reducible (show Hold ..); first | refine Qh rfl ?_ | (refine s_cond rfl ⟨_, rfl, fun hb => ?_, fun hb => ?_⟩ <;> (have hc := hb; try simp only [go_sem] at hc)) | refine s_ret rfl ?_) | ((with_reducible refine Qb ?_ ?_); focus kernel_rfl) | ((with_reducible refine And.intro ?_ ?_); focus omega) | (refine contA_of hK ?_; clear hK K'; simp only [go_sem, *]) | (simp only [thenA, inBlockA, go_sem, *]))
  all_goals first | contradiction | skip
  refine ⟨fun y hy => ?_, fun y hy => ?_, by omega, by omega, ?_⟩
  ·obtain ⟨z, _, rfl⟩ := List.mem_map.1 hy
   simp [go_sem]
  ·obtain ⟨z, _, rfl⟩ := List.mem_map.1 hy
   simp [go_sem]
  ·repeat' (first | (with_reducible (show runOps ..); first | (refine Qr rfl ?_; try intro K' hK; try simp only [go_sem, *])) | (with_reducible (show Hold ..); first | refine Qh rfl ?_ | (refine s_cond rfl ⟨_, rfl, fun hb => ?_, fun hb => ?_⟩ <;> (have hc := hb; try simp only [go_sem] at hc)) | refine s_ret rfl ?_) | ((with_reducible refine Qb ?_ ?_); focus kernel_rfl) | ((with_reducible refine And.intro ?_ ?_); focus omega) | (refine contA_of hK ?_; clear hK K'; simp only [go_sem, *]) | (simp only [thenA, inBlockA, go_sem, *]))
   refine ⟨[_], [some 1], [], ⟨rfl, trivial⟩, ?_⟩
   simp only [go_sem, *]
theorem sp_Clone_place (l : List House) (h1 : l.length ≤ 4294967296) : Spec Tryz.prog 134 [.list (l.map House.enc)] [] (.own 0 3 0 l.length) [.row 3 (l.map House.enc)] := by
 cases l with
 | nil =>
  refine spec_nil1 (fun a c => ?_)
  refine spec_body Tryz.func134 rfl (fun E hE => ?_); simp only [go_sem, Tryz.ntmps134]
  repeat' (first | (with_reducible (show runOps ..); first | (refine Qr rfl ?_; try intro K' hK; try simp only [go_sem, *])) | (with_reducible (show Hold ..); first | refine Qh rfl ?_ | (refine s_cond rfl ⟨_, rfl, fun hb => ?_, fun hb => ?_⟩ <;> (have hc := hb; try simp only [go_sem] at hc)) | refine s_ret rfl ?_) | ((with_reducible refine Qb ?_ ?_); focus kernel_rfl) | ((with_reducible refine And.intro ?_ ?_); focus omega) | (refine contA_of hK ?_; clear hK K'; simp only [go_sem, *]) | (simp only [thenA, inBlockA, go_sem, *]))
  ·refine ⟨[_], [none], [], ⟨rfl, trivial⟩, ?_⟩
   simp only [go_sem, *]
   simp
  ·refine ⟨[_], [some 1], [], ⟨rfl, trivial⟩, ?_⟩
   simp only [go_sem, *]
 | cons x r =>
  have h2 : r.length + 1 ≤ 4294967296 := by simpa using h1
  refine spec_body Tryz.func134 rfl (fun E hE => ?_); simp only [go_sem, Tryz.ntmps134]
  repeat' (first | (with_reducible (show runOps ..); first | (refine Qr rfl ?_; try intro K' hK; try simp only [go_sem, *])) | (with_reducible (show Hold ..); first | refine Qh rfl ?_ | (refine s_cond rfl ⟨_, rfl, fun hb => ?_, fun hb => ?_⟩ <;> (have hc := hb; try simp only [go_sem] at hc)) | refine s_ret rfl ?_) | ((with_reducible refine Qb ?_ ?_); focus kernel_rfl) | ((with_reducible refine And.intro ?_ ?_); focus omega) | (refine contA_of hK ?_; clear hK K'; simp only [go_sem, *]) | (simp only [thenA, inBlockA, go_sem, *]))
  all_goals first | contradiction | skip
  refine ⟨fun y hy => ?_, fun y hy => ?_, by omega, by omega, ?_⟩
  ·obtain ⟨z, _, rfl⟩ := List.mem_map.1 hy
   simp [go_sem]
  ·obtain ⟨z, _, rfl⟩ := List.mem_map.1 hy
   simp [go_sem]
  ·repeat' (first | (with_reducible (show runOps ..); first | (refine Qr rfl ?_; try intro K' hK; try simp only [go_sem, *])) | (with_reducible (show Hold ..); first | refine Qh rfl ?_ | (refine s_cond rfl ⟨_, rfl, fun hb => ?_, fun hb => ?_⟩ <;> (have hc := hb; try simp only [go_sem] at hc)) | refine s_ret rfl ?_) | ((with_reducible refine Qb ?_ ?_); focus kernel_rfl) | ((with_reducible refine And.intro ?_ ?_); focus omega) | (refine contA_of hK ?_; clear hK K'; simp only [go_sem, *]) | (simp only [thenA, inBlockA, go_sem, *]))
   refine ⟨[_], [some 1], [], ⟨rfl, trivial⟩, ?_⟩
   simp only [go_sem, *]
def idxH (l : List House) (x : House) : Int := if x ∈ l then (l.idxOf x : Nat) else -1
theorem idxH_of {l : List House} {x : House} (h : x ∈ l) : idxH l x = (l.idxOf x : Nat) := by simp [idxH, h]
theorem idxH_none {l : List House} {x : House} (hn : x ∉ l) : idxH l x = -1 := by simp [idxH, hn]
theorem takeH_notin {l : List House} {i : Nat} {x : House} (h : i < l.length) (hn : x ∉ l.take i) (hx : ¬ l.getD i default = x) : x ∉ l.take (i + 1) := by
 rw [List.take_add_one]
 simp only [List.getD_eq_getElem?_getD, List.getElem?_eq_getElem h, Option.getD_some] at hx
 simp only [List.getElem?_eq_getElem h, Option.toList_some, List.mem_append, List.mem_singleton, not_or]
 exact ⟨hn, fun e => hx e.symm⟩
theorem idxH_found {l : List House} {i : Nat} {x : House} (h : i < l.length) (hn : x ∉ l.take i) (hx : l.getD i default = x) : idxH l x = i := by
 have hg : l.drop i = x :: l.drop (i + 1) := by rw [drop_cons h, hx]
 have hl : l = l.take i ++ x :: l.drop (i + 1) := by rw [← hg, List.take_append_drop]
 have hm : x ∈ l := by rw [hl]; simp
 rw [idxH_of hm]
 conv => lhs; rw [hl]
 rw [List.idxOf_append, if_neg hn]
 simp; omega
theorem sp_Index_place (l : List House) (x : House) (h1 : l.length ≤ 4294967296) : Spec Tryz.prog 142 [.list (l.map House.enc), x.enc] [] (iV (idxH l x)) [] := by
 refine spec_body Tryz.func142 rfl (fun E hE => ?_); simp only [go_sem, Tryz.ntmps142]
 repeat' (first | (with_reducible (show runOps ..); first | (refine Qr rfl ?_; try intro K' hK; try simp only [go_sem, *])) | (with_reducible (show Hold ..); first | refine Qh rfl ?_ | refine s_draw rfl Tryz.mixed (by kernel_rfl) ?_ | (refine s_cond rfl ⟨_, rfl, fun hb => ?_, fun hb => ?_⟩ <;> (have hc := hb; try simp only [go_sem] at hc)) | refine s_ret rfl ?_) | ((with_reducible refine Qb ?_ ?_); focus kernel_rfl) | ((with_reducible refine And.intro ?_ ?_); focus omega) | (refine contA_of hK ?_; clear hK K'; simp only [go_sem, *]) | (simp only [thenA, inBlockA, go_sem, *]))
 refine s_loop rfl (fun zn zN zenv zAs => ∃ (i : Nat), zn = (l.length) - i ∧ i ≤ (l.length) ∧ (x ∉ l.take i) ∧ zN = 19 ∧ zenv = [(8, iV i), (7, iV l.length), (3, .ptr 0 0), (0, .list (l.map House.enc))] ∧ zAs = [.box [iV x.street, iV x.plate.number, iV x.plate.letter]]) (l.length) ⟨[some 0], [], _, _, _, (by (simp only [Weak, go_sem, List.map_append, List.map_set, *] <;> (try simp (disch := omega) only [wrap_succ]) <;> (try simp) <;> (try omega))), 0, (by simp), (by simp), (by simp), rfl, rfl, rfl⟩ ?_; rintro _ _ _ _ ⟨i, rfl, hi, hP, rfl, rfl, rfl⟩
 repeat' (first | (with_reducible (show runOps ..); first | (refine Qr rfl ?_; try intro K' hK; try simp only [go_sem, *])) | (with_reducible (show Hold ..); first | refine Qh rfl ?_ | refine s_draw rfl Tryz.mixed (by kernel_rfl) ?_ | (refine s_cond rfl ⟨_, rfl, fun hb => ?_, fun hb => ?_⟩ <;> (have hc := hb; try simp only [go_sem] at hc)) | refine s_ret rfl ?_) | ((with_reducible refine Qb ?_ ?_); focus kernel_rfl) | ((with_reducible refine And.intro ?_ ?_); focus omega) | (refine contA_of hK ?_; clear hK K'; simp only [go_sem, *]) | (simp only [thenA, inBlockA, go_sem, *]))
 ·(refine ⟨[_], [], [], ⟨rfl, trivial⟩, ?_⟩; simp only [go_sem, *])
  have e : x = l.getD i default := by assumption
  rw [← e]
  exact int_eq (idxH_found (by assumption) hP e.symm)
 ·refine ⟨_, (by omega), [some 0], [], _, _, _, (by (simp only [Weak, go_sem, List.map_append, List.map_set, *] <;> (try simp (disch := omega) only [wrap_succ]) <;> (try simp) <;> (try omega))), i + 1, rfl, (by omega), (by exact takeH_notin (by assumption) hP (fun e => absurd e.symm (by assumption))), rfl, rfl, rfl⟩
 ·(refine ⟨[_], [], [], ⟨rfl, trivial⟩, ?_⟩; simp only [go_sem, *])
  rw [List.take_of_length_le (by omega)] at hP
  rw [idxH_none hP]
theorem sp_Contains_place (l : List House) (x : House) (h1 : l.length ≤ 4294967296) : Spec Tryz.prog 106 [.list (l.map House.enc), x.enc] [] (bV (decide (x ∈ l))) [] := by
 refine spec_body Tryz.func106 rfl (fun E hE => ?_); simp only [go_sem, Tryz.ntmps106]
 repeat' (first | (with_reducible (show runOps ..); first | (refine Qr rfl ?_; try intro K' hK; try simp only [go_sem, *])) | (with_reducible (show Hold ..); first | refine Qh rfl ?_ | (refine s_cond rfl ⟨_, rfl, fun hb => ?_, fun hb => ?_⟩ <;> (have hc := hb; try simp only [go_sem] at hc)) | refine s_ret rfl ?_) | (with_reducible (show callA ..); first | (refine call_s (sp_Index_place l x h1) ?_ ?_; (focus (simp only [go_sem, *]; done)); simp only [go_sem, *])) | ((with_reducible refine Qb ?_ ?_); focus kernel_rfl) | ((with_reducible refine And.intro ?_ ?_); focus omega) | (refine contA_of hK ?_; clear hK K'; simp only [go_sem, *]) | (simp only [thenA, inBlockA, go_sem, *]))
 (refine ⟨[_], [], [], ⟨rfl, trivial⟩, ?_⟩; simp only [go_sem, *])
 refine bool_eq ?_
 by_cases hm : x ∈ l
 ·simp [idxH_of hm, hm]
 ·simp [idxH_none hm, hm]
theorem sp_Compact_place (l : List House) (h1 : l.length ≤ 4294967296) (hn : l.Nodup) : Spec Tryz.prog 137 [.own 0 3 0 l.length] [.row 3 (l.map House.enc)] (.own 0 3 0 l.length) [.row 3 (l.map House.enc)] := by
 have hne : ∀ i, i + 1 < l.length → ¬ l.getD (i + 1) default = l.getD i default := fun i hi e => by
  have e1 : l.getD (i + 1) default = l[i + 1] := by simp [List.getD, hi]
  have e2 : l.getD i default = l[i] := by simp [List.getD, show i < l.length by omega]
  rw [e1, e2] at e
  have := (nodup_inj hn).1 e
  omega
 refine spec_body Tryz.func137 rfl (fun E hE => ?_); simp only [go_sem, Tryz.ntmps137]
 repeat' (first | (with_reducible (show runOps ..); first | (refine Qr rfl ?_; try intro K' hK; try simp only [go_sem, *])) | (with_reducible (show Hold ..); first | refine Qh rfl ?_ | refine s_draw rfl Tryz.mixed (by kernel_rfl) ?_ | (refine s_cond rfl ⟨_, rfl, fun hb => ?_, fun hb => ?_⟩ <;> (have hc := hb; try simp only [go_sem] at hc)) | refine s_ret rfl ?_) | ((with_reducible refine Qb ?_ ?_); focus kernel_rfl) | ((with_reducible refine And.intro ?_ ?_); focus omega) | (refine contA_of hK ?_; clear hK K'; simp only [go_sem, *]) | (simp only [thenA, inBlockA, go_sem, *]))
 ·refine ⟨[_], [some 0], [], ⟨rfl, trivial⟩, ?_⟩
  simp only [go_sem, *]
 ·refine s_loop rfl (fun zn zN zenv zAs => ∃ (i : Nat), zn = (l.length - 1) - i ∧ i ≤ (l.length - 1) ∧ (NoP i) ∧ zN = 61 ∧ zenv = [(3, iV ((i : Int) + 1)), (0, .own 0 3 0 l.length)] ∧ zAs = [.row 3 (l.map House.enc)]) (l.length - 1) ⟨[some 0], [], _, _, _, (by (simp only [Weak, go_sem, List.map_append, List.map_set, *] <;> (try simp (disch := omega) only [wrap_succ]) <;> (try simp) <;> (try omega))), 0, (by simp), (by simp), (by trivial), rfl, rfl, rfl⟩ ?_; rintro _ _ _ _ ⟨i, rfl, hi, hP, rfl, rfl, rfl⟩
  have hw1 : i + 1 < l.length → IntKind.i64.wrap ((i : Int) + 1 - 1) = (i : Int) := fun h => by rw [wrap_i64 (by omega) (by omega)]; omega
  have hw2 : i + 1 < l.length → IntKind.i64.wrap ((i : Int) + 1 + 1) = (((i + 1 : Nat) : Int) + 1) := fun h => by rw [wrap_i64 (by omega) (by omega)]; omega
  have hlt : ((i : Int) + 1 < (l.length : Int)) = (i + 1 < l.length) := by simp only [eq_iff_iff]; omega
  have htn : ((i : Int) + 1).toNat = i + 1 := by omega
  by_cases h2 : i + 1 < l.length
  ·have h3 : i < l.length := by omega
   have hne := hne i h2
   have hne' : decide (l.getD (i + 1) default = l.getD i default) = false := by simpa using hne
   repeat' (first | (with_reducible (show runOps ..); first | (refine Qr rfl ?_; try intro K' hK; try simp only [go_sem, *])) | (with_reducible (show Hold ..); first | refine Qh rfl ?_ | refine s_draw rfl Tryz.mixed (by kernel_rfl) ?_ | (refine s_cond rfl ⟨_, rfl, fun hb => ?_, fun hb => ?_⟩ <;> (have hc := hb; try simp only [go_sem] at hc)) | refine s_ret rfl ?_) | ((with_reducible refine Qb ?_ ?_); focus kernel_rfl) | ((with_reducible refine And.intro ?_ ?_); focus omega) | (refine contA_of hK ?_; clear hK K'; simp only [go_sem, *]) | (simp only [thenA, inBlockA, go_sem, *]))
   all_goals first | contradiction | skip
   refine ⟨_, (by omega), [some 0], [], _, _, _, (by (simp only [Weak, go_sem, List.map_append, List.map_set, *] <;> (try simp (disch := omega) only [wrap_succ]) <;> (try simp) <;> (try omega))), i + 1, rfl, (by omega), (by trivial), rfl, rfl, rfl⟩
  ·repeat' (first | (with_reducible (show runOps ..); first | (refine Qr rfl ?_; try intro K' hK; try simp only [go_sem, *])) | (with_reducible (show Hold ..); first | refine Qh rfl ?_ | refine s_draw rfl Tryz.mixed (by kernel_rfl) ?_ | (refine s_cond rfl ⟨_, rfl, fun hb => ?_, fun hb => ?_⟩ <;> (have hc := hb; try simp only [go_sem] at hc)) | refine s_ret rfl ?_) | ((with_reducible refine Qb ?_ ?_); focus kernel_rfl) | ((with_reducible refine And.intro ?_ ?_); focus omega) | (refine contA_of hK ?_; clear hK K'; simp only [go_sem, *]) | (simp only [thenA, inBlockA, go_sem, *]))
   refine ⟨[_], [some 0], [], ⟨rfl, trivial⟩, ?_⟩
   simp only [go_sem, *]
theorem isort_strict_houses {xs : List House} (hn : xs.Nodup) : Strict (isort cmpH xs) := by
 have h1 := isort_sorted cmpH ordr_cmpH xs
 have h2 : (isort cmpH xs).Nodup := (isort_perm cmpH xs).nodup_iff.2 hn
 refine (h1.and h2).imp (fun {a b} h => ?_)
 rcases House.lt_tri a b with h3 | h3 | h3
 ·exact h3
 ·exact absurd h3 h.2
 ·exact absurd ((cmpH_lt b a).2 h3) h.1
theorem isort_sortH {xs : List House} (hn : xs.Nodup) : isort cmpH xs = sortH xs :=
 strict_uniq (isort_strict_houses hn) (strict_sortH xs) (fun z => by rw [(isort_perm cmpH xs).mem_iff, mem_sortH])
theorem sp_sorted (l : List House) (hn : l.Nodup) (h12 : l.length ≤ 12) : Spec Tryz.prog 99 [.list (l.map House.enc)] [] (.list ((sortH l).map House.enc)) [] := by
 have hcal : callable Tryz.prog 136 = true := by kernel_rfl
 have ss := sp_SortFunc_House hcal (fun a b => sp_comparePlaces a b) l h12
 rw [isort_sortH hn] at ss
 have hl : (sortH l).length = l.length := by rw [← isort_sortH hn]; exact (isort_perm cmpH l).length_eq
 have hns : (sortH l).Nodup := by rw [← isort_sortH hn]; exact (isort_perm cmpH l).nodup_iff.2 hn
 have sc := sp_Compact_place (sortH l) (by omega) hns
 rw [hl] at sc
 have hl2 : l.length ≤ (sortH l).length := by omega
 have hl3 : (sortH l).length ≤ l.length := by omega
 clear hl hns
 have hcl := sp_Clone_place l (by omega)
 refine spec_body Tryz.func99 rfl (fun E hE => ?_); simp only [go_sem, Tryz.ntmps99]
 repeat' (first | (with_reducible (show runOps ..); first | (refine Qr rfl ?_; try intro K' hK; try simp only [go_sem, *])) | (with_reducible (show Hold ..); first | refine Qh rfl ?_ | (refine s_cond rfl ⟨_, rfl, fun hb => ?_, fun hb => ?_⟩ <;> (have hc := hb; try simp only [go_sem] at hc)) | refine s_ret rfl ?_) | (with_reducible (show callA ..); first | (refine call_n (hcl) ?_ ?_ ?_ ?_; (focus (simp only [go_sem, *]; done)); (focus (first | (simp; done) | (simp [go_sem]; done))); (focus (first | (simp; done) | (simp [go_sem]; done))); simp only [go_sem, *])) | ((with_reducible refine Qb ?_ ?_); focus kernel_rfl) | ((with_reducible refine And.intro ?_ ?_); focus omega) | (refine contA_of hK ?_; clear hK K'; simp only [go_sem, *]) | (simp only [thenA, inBlockA, go_sem, *]))
 refine call_of [0] [] ss (by simp) (by simp only [go_sem, *]) (by simp only [go_sem, AObj.live, *]) (by simp) (.inl rfl) (by simp [go_sem]) (by simp) ?_
 simp only [go_sem, *]
 repeat' (first | (with_reducible (show runOps ..); first | (refine Qr rfl ?_; try intro K' hK; try simp only [go_sem, *])) | (with_reducible (show Hold ..); first | refine Qh rfl ?_ | (refine s_cond rfl ⟨_, rfl, fun hb => ?_, fun hb => ?_⟩ <;> (have hc := hb; try simp only [go_sem] at hc)) | refine s_ret rfl ?_) | ((with_reducible refine Qb ?_ ?_); focus kernel_rfl) | ((with_reducible refine And.intro ?_ ?_); focus omega) | (refine contA_of hK ?_; clear hK K'; simp only [go_sem, *]) | (simp only [thenA, inBlockA, go_sem, *]))
 refine call_of [0] [] sc (by simp) (by simp only [go_sem, *]) (by simp only [go_sem, AObj.live, *]) (by simp) (.inl rfl) (by simp [go_sem]) (by simp) ?_
 simp only [go_sem, *]
 repeat' (first | (with_reducible (show runOps ..); first | (refine Qr rfl ?_; try intro K' hK; try simp only [go_sem, *])) | (with_reducible (show Hold ..); first | refine Qh rfl ?_ | (refine s_cond rfl ⟨_, rfl, fun hb => ?_, fun hb => ?_⟩ <;> (have hc := hb; try simp only [go_sem] at hc)) | refine s_ret rfl ?_) | ((with_reducible refine Qb ?_ ?_); focus kernel_rfl) | ((with_reducible refine And.intro ?_ ?_); focus omega) | (refine contA_of hK ?_; clear hK K'; simp only [go_sem, *]) | (simp only [thenA, inBlockA, go_sem, *]))
 refine ⟨[_], [], [0], ⟨rfl, trivial⟩, ?_⟩
 simp only [go_sem, *]
 exact (List.take_of_length_le (by simpa using hl3)).symm
end Go.Abs

namespace Go.Abs
open Go Go.Proofs
set_option maxRecDepth 10000
@[go_sem] theorem ofVal_key (h : House) : ofVal h.key = h.enc := by simp [House.key, House.enc, ofVal, Value.oneCell']
def ThP (hs don rem : List House) (i : Nat) : Prop := rem.length + i = hs.length ∧ (don ++ rem).Perm hs
def thenF (f g : House → List House) (h : House) : List House := sortH ((f h).flatMap g)
theorem sp_then (hs ks : List House) (f g : House → List House) (hn : hs.Nodup) (hw : ∀ k, k ∈ hs → k.Wf) (kw : ∀ k, k ∈ ks → k.Wf) (hk : ∀ h, h ∈ hs → ∀ x, x ∈ f h → x ∈ ks) (hnd : ∀ h, h ∈ hs → ((f h).flatMap g).Nodup) (h12 : ∀ h, h ∈ hs → ((f h).flatMap g).length ≤ 12)
  (hsl : hs.length ≤ 1000) (hfl : ∀ h, h ∈ hs → (f h).length ≤ 1000) (hgl : ∀ x, x ∈ ks → (g x).length ≤ 1000) :
  Spec Tryz.prog 165 [.fmap (hs.map House.key) (hs.map (MapV f)), .fmap (ks.map House.key) (ks.map (MapV g))] [] (.fmap (hs.map House.key) (hs.map (MapV (thenF f g)))) [] := by
 have hmt : (mapT Tryz.prog 121).isSome = true := by kernel_rfl
 refine spec_body Tryz.func165 rfl (fun E hE => ?_); simp only [go_sem, Tryz.ntmps165]
 repeat' (first | (with_reducible (show runOps ..); first | (refine Qr rfl ?_; try intro K' hK; try simp only [go_sem, *])) | (with_reducible (show Hold ..); first | refine Qh rfl ?_ | refine s_draw rfl Tryz.mixed (by kernel_rfl) ?_ | (refine s_cond rfl ⟨_, rfl, fun hb => ?_, fun hb => ?_⟩ <;> (have hc := hb; try simp only [go_sem] at hc)) | refine s_ret rfl ?_) | ((with_reducible refine Qb ?_ ?_); focus kernel_rfl) | ((with_reducible refine And.intro ?_ ?_); focus omega) | (refine contA_of hK ?_; clear hK K'; simp only [go_sem, *]) | (simp only [thenA, inBlockA, go_sem, *]))
 refine s_loop rfl (fun zn zN zenv zAs => ∃ (i : Nat) (cur : Option (Value × AV)) (don rem : List House), zn = (hs.length) - i ∧ i ≤ (hs.length) ∧ (ThP hs don rem i) ∧ zN = 36 ∧ zenv = [(5, .mp 0), (13, .ptr 1 0), (1, .fmap (ks.map House.key) (ks.map (MapV g)))] ∧ zAs = [.mapo (don.map House.key) (don.map (MapV (thenF f g))), .iter cur (rem.map House.key) (rem.map (MapV f))]) (hs.length) ⟨[some 0, some 1], [], _, _, _, (by (simp only [Weak, go_sem, List.map_append, List.map_set, *] <;> (try simp (disch := omega) only [wrap_succ]) <;> (try simp) <;> (try omega))), 0, none, [], hs, (by simp), (by simp), (by exact ⟨by omega, by simp⟩), rfl, rfl, rfl⟩ ?_; rintro _ _ _ _ ⟨i, cur, don, rem, rfl, hi, hP, rfl, rfl, rfl⟩
 refine s_seq rfl ?_
 refine s_next (o := 1) rfl rfl rfl rfl rfl rfl rfl cur (rem.map House.key) (rem.map (MapV f)) (by simp only [go_sem]) (by simp only [go_sem]) (show (14 : Nat) < 36 by decide) (show (15 : Nat) < 36 by decide) (fun hk0 _ => ?_) (fun r hr1 hr2 => ?_)
 ·obtain rfl : rem = [] := by simpa using hk0
  simp only [go_sem]
  repeat' (first | (with_reducible (show runOps ..); first | (refine Qr rfl ?_; try intro K' hK; try simp only [go_sem, *])) | (with_reducible (show Hold ..); first | refine Qh rfl ?_ | refine s_draw rfl Tryz.mixed (by kernel_rfl) ?_ | (refine s_cond rfl ⟨_, rfl, fun hb => ?_, fun hb => ?_⟩ <;> (have hc := hb; try simp only [go_sem] at hc)) | refine s_ret rfl ?_) | ((with_reducible refine Qb ?_ ?_); focus kernel_rfl) | ((with_reducible refine And.intro ?_ ?_); focus omega) | (refine contA_of hK ?_; clear hK K'; simp only [go_sem, *]) | (simp only [thenA, inBlockA, go_sem, *]))
  obtain ⟨_, p0⟩ := hP
  rw [List.append_nil] at p0
  have hpm : MPerm (hs.map House.key) (hs.map (MapV (thenF f g))) (don.map House.key) (don.map (MapV (thenF f g))) := by
   refine .inr ⟨by simp, by simp, ?_⟩
   rw [List.zip_map', List.zip_map']
   exact (p0.map _).symm
  refine ⟨[_], [], [0], ⟨rfl, trivial⟩, ?_⟩
  simp only [go_sem, *]
 ·obtain ⟨hr, hrk, hrx⟩ : ∃ hr : r < rem.length, (rem.map House.key)[r] = (rem[r]).key ∧ (rem.map (MapV f))[r] = .list ((f rem[r]).map House.enc) := ⟨by simpa using hr1, by simp, by simp [MapV]⟩
  rw [hrk, hrx, ← map_eraseIdx', ← map_eraseIdx']
  obtain ⟨hlen0, hperm⟩ := hP
  have hq : (rem[r] :: rem.eraseIdx r).Perm rem := (erase_perm rem r hr).symm
  have hel : (rem.eraseIdx r).length = rem.length - 1 := List.length_eraseIdx_of_lt hr
  clear hrk hrx
  generalize rem.eraseIdx r = rem' at *
  generalize rem[r] = h at *
  have hq2 : ((don ++ [h]) ++ rem').Perm hs := by
   rw [List.append_assoc]
   exact (List.Perm.append_left don hq).trans hperm
  have hmh : h ∈ hs := hq2.mem_iff.1 (by simp)
  have hmd : ∀ k, k ∈ don → k ∈ hs := fun k hk => hq2.mem_iff.1 (by simp [hk])
  have hnd2 := hq2.nodup_iff.2 hn
  have hnot : h ∉ don := fun hd => by
   rw [List.append_assoc] at hnd2
   exact (List.nodup_append.1 hnd2).2.2 h hd h (by simp) rfl
  have hil : i < hs.length := by omega
  have hfh := hfl h hmh
  have hkh := hk h hmh
  have hndh := hnd h hmh
  have h12h := h12 h hmh
  clear hq hperm hnd2
  simp only [go_sem]
  repeat' (first | (with_reducible (show runOps ..); first | (refine Qr rfl ?_; try intro K' hK; try simp only [go_sem, *])) | (with_reducible (show Hold ..); first | refine Qh rfl ?_ | refine s_draw rfl Tryz.mixed (by kernel_rfl) ?_ | (refine s_cond rfl ⟨_, rfl, fun hb => ?_, fun hb => ?_⟩ <;> (have hc := hb; try simp only [go_sem] at hc)) | refine s_ret rfl ?_) | ((with_reducible refine Qb ?_ ?_); focus kernel_rfl) | ((with_reducible refine And.intro ?_ ?_); focus omega) | (refine contA_of hK ?_; clear hK K'; simp only [go_sem, *]) | (simp only [thenA, inBlockA, go_sem, *]))
  refine s_loop rfl (fun zn zN zenv zAs => ∃ (j : Nat) (acc : List House), zn = ((f h).length) - j ∧ j ≤ ((f h).length) ∧ (acc ++ ((f h).drop j).flatMap g = (f h).flatMap g) ∧ zN = 36 ∧ zenv = [(21, iV j), (20, iV (f h).length), (19, .list ((f h).map House.enc)), (8, .own 3 3 0 acc.length), (6, .ptr 2 0), (5, .mp 0), (13, .ptr 1 0), (1, .fmap (ks.map House.key) (ks.map (MapV g)))] ∧ zAs = [.mapo (don.map House.key) (don.map (MapV (thenF f g))), .iter (some (h.key, .list ((f h).map House.enc))) (rem'.map House.key) (rem'.map (MapV f)), .box [iV h.street, iV h.plate.number, iV h.plate.letter], .row 3 (acc.map House.enc)]) ((f h).length) ⟨[some 0, some 1, some 2, none], [], _, _, _, (by (simp only [Weak, go_sem, List.map_append, List.map_set, *] <;> (try simp (disch := omega) only [wrap_succ]) <;> (try simp) <;> (try omega))), 0, [], (by simp), (by simp), (by simp), rfl, rfl, rfl⟩ ?_; rintro _ _ _ _ ⟨j, acc, rfl, hj, hQ, rfl, rfl, rfl⟩
  have hql := congrArg List.length hQ
  simp only [List.length_append] at hql
  by_cases hj : j < (f h).length
  ·have hdj := drop_cons hj
   rw [hdj, List.flatMap_cons] at hQ hql
   simp only [List.length_append] at hql
   have hxk := hkh _ (getD_mem hj)
   have hxw := kw _ hxk
   have hgx := hgl _ hxk
   clear hdj
   repeat' (first | (with_reducible (show runOps ..); first | (refine Qr rfl ?_; try intro K' hK; try simp only [go_sem, *])) | (with_reducible (show Hold ..); first | refine Qh rfl ?_ | refine s_draw rfl Tryz.mixed (by kernel_rfl) ?_ | (refine s_cond rfl ⟨_, rfl, fun hb => ?_, fun hb => ?_⟩ <;> (have hc := hb; try simp only [go_sem] at hc)) | refine s_ret rfl ?_) | ((with_reducible refine Qb ?_ ?_); focus kernel_rfl) | ((with_reducible refine And.intro ?_ ?_); focus omega) | (refine contA_of hK ?_; clear hK K'; simp only [go_sem, *]) | (simp only [thenA, inBlockA, go_sem, *]))
   refine look_fhouse (h := (f h).getD j default) (hs := ks) (F := MapV g) kw hxw ?_
   rw [if_pos hxk, MapV]
   repeat' (first | (with_reducible (show runOps ..); first | (refine Qr rfl ?_; try intro K' hK; try simp only [go_sem, *])) | (with_reducible (show Hold ..); first | refine Qh rfl ?_ | refine s_draw rfl Tryz.mixed (by kernel_rfl) ?_ | (refine s_cond rfl ⟨_, rfl, fun hb => ?_, fun hb => ?_⟩ <;> (have hc := hb; try simp only [go_sem] at hc)) | refine s_ret rfl ?_) | ((with_reducible refine Qb ?_ ?_); focus kernel_rfl) | ((with_reducible refine And.intro ?_ ?_); focus omega) | (refine contA_of hK ?_; clear hK K'; simp only [go_sem, *]) | (simp only [thenA, inBlockA, go_sem, *]))
   refine ⟨fun y hy => ?_, fun y hy => ?_, by omega, ?_⟩
   ·obtain ⟨z, _, rfl⟩ := List.mem_map.1 hy
    simp [go_sem]
   ·obtain ⟨z, _, rfl⟩ := List.mem_map.1 hy
    simp [go_sem]
   ·repeat' (first | (with_reducible (show runOps ..); first | (refine Qr rfl ?_; try intro K' hK; try simp only [go_sem, *])) | (with_reducible (show Hold ..); first | refine Qh rfl ?_ | refine s_draw rfl Tryz.mixed (by kernel_rfl) ?_ | (refine s_cond rfl ⟨_, rfl, fun hb => ?_, fun hb => ?_⟩ <;> (have hc := hb; try simp only [go_sem] at hc)) | refine s_ret rfl ?_) | ((with_reducible refine Qb ?_ ?_); focus kernel_rfl) | ((with_reducible refine And.intro ?_ ?_); focus omega) | (refine contA_of hK ?_; clear hK K'; simp only [go_sem, *]) | (simp only [thenA, inBlockA, go_sem, *]))
    refine ⟨_, (by omega), [some 0, some 1, some 2, some 5], [], _, _, _, (by (simp only [Weak, go_sem, List.map_append, List.map_set, *] <;> (try simp (disch := omega) only [wrap_succ]) <;> (try simp) <;> (try omega))), j + 1, acc ++ g ((f h).getD j default), rfl, (by omega), (by rw [← hQ]; simp), rfl, rfl, rfl⟩
  ·rw [drop_end (by omega), List.flatMap_nil, List.append_nil] at hQ
   subst hQ
   repeat' (first | (with_reducible (show runOps ..); first | (refine Qr rfl ?_; try intro K' hK; try simp only [go_sem, *])) | (with_reducible (show Hold ..); first | refine Qh rfl ?_ | refine s_draw rfl Tryz.mixed (by kernel_rfl) ?_ | (refine s_cond rfl ⟨_, rfl, fun hb => ?_, fun hb => ?_⟩ <;> (have hc := hb; try simp only [go_sem] at hc)) | refine s_ret rfl ?_) | ((with_reducible refine Qb ?_ ?_); focus kernel_rfl) | ((with_reducible refine And.intro ?_ ?_); focus omega) | (refine contA_of hK ?_; clear hK K'; simp only [go_sem, *]) | (simp only [thenA, inBlockA, go_sem, *]))
   refine call_fz (gone := [3]) (sp_sorted ((f h).flatMap g) hndh h12h) (by simp only [go_sem, *]; simp [List.take_of_length_le]) (by simp only [go_sem, *]; simp) (by simp only [go_sem]) (by simp) (by simp) ?_
   simp only [go_sem, deads]
   repeat' (first | (with_reducible (show runOps ..); first | (refine Qr rfl ?_; try intro K' hK; try simp only [go_sem, *])) | (with_reducible (show Hold ..); first | refine Qh rfl ?_ | refine s_draw rfl Tryz.mixed (by kernel_rfl) ?_ | (refine s_cond rfl ⟨_, rfl, fun hb => ?_, fun hb => ?_⟩ <;> (have hc := hb; try simp only [go_sem] at hc)) | refine s_ret rfl ?_) | ((with_reducible refine Qb ?_ ?_); focus kernel_rfl) | ((with_reducible refine And.intro ?_ ?_); focus omega) | (refine contA_of hK ?_; clear hK K'; simp only [go_sem, *]) | (simp only [thenA, inBlockA, go_sem, *]))
   refine new_house (h := h) (hs := don) (xs := don.map (MapV (thenF f g))) (by simp only [go_sem, *]) (fun k hk => hw k (hmd k hk)) (hw h hmh) hnot (by simp only [go_sem, *]) (by simp only [go_sem, *]) ?_
   simp only [go_sem, *]
   repeat' (first | (with_reducible (show runOps ..); first | (refine Qr rfl ?_; try intro K' hK; try simp only [go_sem, *])) | (with_reducible (show Hold ..); first | refine Qh rfl ?_ | refine s_draw rfl Tryz.mixed (by kernel_rfl) ?_ | (refine s_cond rfl ⟨_, rfl, fun hb => ?_, fun hb => ?_⟩ <;> (have hc := hb; try simp only [go_sem] at hc)) | refine s_ret rfl ?_) | ((with_reducible refine Qb ?_ ?_); focus kernel_rfl) | ((with_reducible refine And.intro ?_ ?_); focus omega) | (refine contA_of hK ?_; clear hK K'; simp only [go_sem, *]) | (simp only [thenA, inBlockA, go_sem, *]))
   have hM : MapV (thenF f g) h = .list ((sortH ((f h).flatMap g)).map House.enc) := rfl
   refine ⟨_, (by omega), [some 0, some 1], [], _, _, _, (by (simp only [Weak, go_sem, List.map_append, List.map_set, *] <;> (try simp (disch := omega) only [wrap_succ]) <;> (try simp) <;> (try omega))), i + 1, (some (h.key, .list ((f h).map House.enc))), don ++ [h], rem', rfl, (by omega), (by exact ⟨by omega, hq2⟩), rfl, rfl, rfl⟩
end Go.Abs

namespace Go.Abs
open Go Go.Proofs
set_option maxRecDepth 10000
set_option maxHeartbeats 4000000
def waysErr : List Change → Int
 | [] => 0
 | c :: r => if betw c.kind 1 7 = true then waysErr r else 8
def stepsErr : List (List Change) → Int
 | [] => 0
 | w :: r => if w.length = 0 then 7 else if 3 < w.length then 6 else if waysErr w = 0 then stepsErr r else 8
def factsErr (p : Plan) : List Fact → Int
 | [] => 0
 | f :: r => if f.src ∈ housesOf p ∧ betw f.dst.street 0 (p.length - 1) = true then (if f.dst.plate.ok = true then factsErr p r else 1) else 3
def factsErr0 (s : Story) : Int := if 4 < s.facts.length then 6 else factsErr s.first s.facts
def stepsErr0 (s : Story) (l : List (List Change)) : Int := if stepsErr l = 0 then factsErr0 s else stepsErr l
def storyErr (s : Story) : Int := if check s.first = 0 then if 3 < s.steps.length then 6 else stepsErr0 s s.steps else check s.first
def taleBox (s : Story) : AObj := .box [.list (s.first.map encStreet), .list (s.steps.map encStep), .list (s.facts.map Fact.enc), .list ((housesOf s.first).map House.enc)]
attribute [go_sem] taleBox
abbrev nilP : AV := .raw (.pointer none)
def G0 (G : Int) (R : AV) (out : List AObj) (s : Story) : Prop := (G = 0 → R = .tup [.ptr 0 0, iV 0] ∧ out = [taleBox s]) ∧ (G ≠ 0 → R = .tup [nilP, iV G] ∧ out = [])
theorem waysErr_drop {l : List Change} {i : Nat} (h : i < l.length) : waysErr (l.drop i) = if betw (l.getD i default).kind 1 7 = true then waysErr (l.drop (i + 1)) else 8 := by
 rw [drop_cons h, waysErr]
theorem stepsErr_drop {l : List (List Change)} {i : Nat} (h : i < l.length) : stepsErr (l.drop i) = if (l.getD i default).length = 0 then 7 else if 3 < (l.getD i default).length then 6 else if waysErr (l.getD i default) = 0 then stepsErr (l.drop (i + 1)) else 8 := by
 rw [drop_cons h, stepsErr]
theorem factsErr_drop {p : Plan} {l : List Fact} {i : Nat} (h : i < l.length) : factsErr p (l.drop i) = if (l.getD i default).src ∈ housesOf p ∧ betw (l.getD i default).dst.street 0 (p.length - 1) = true then (if (l.getD i default).dst.plate.ok = true then factsErr p (l.drop (i + 1)) else 1) else 3 := by
 rw [drop_cons h, factsErr]
theorem sp_begin (s : Story) (hst : s.steps.length ≤ 4294967296) (hwl : ∀ w, w ∈ s.steps → w.length ≤ 4294967296) (hfl : s.facts.length ≤ 4294967296) (hpl : s.first.length ≤ 4294967296) (R : AV) (out : List AObj) (G : Int) (hG : storyErr s = G) (hR : G0 G R out s) :
  Spec Tryz.prog 138 [s.enc] [] R out := by
 have sc := sp_Check s.first hpl
 by_cases hc0 : check s.first = 0
 ·rw [storyErr, if_pos hc0] at hG
  have v := (check_zero s.first).1 hc0
  rw [hc0] at sc
  clear hc0
  by_cases h3 : 3 < s.steps.length
  ·have h3i : (s.steps.length : Int) > 3 := by omega
   rw [if_pos h3] at hG
   subst hG
   obtain ⟨rfl, rfl⟩ := hR.2 (by decide)
   clear hR
   refine spec_body Tryz.func138 rfl (fun E hE => ?_); simp only [go_sem, Tryz.ntmps138]
   repeat' (first | (with_reducible (show runOps ..); first | (refine Qr rfl ?_; try intro K' hK; try simp only [go_sem, *]) | (refine Qi rfl rfl rfl rfl (fun hb K' hK => ?_) (fun hb => ?_) <;> (have hc := hb; try simp only [go_sem] at hc; simp only [go_sem, *]))) | (with_reducible (show Hold ..); first | refine Qh rfl ?_ | refine s_draw rfl Tryz.mixed (by kernel_rfl) ?_ | (refine s_cond rfl ⟨_, rfl, fun hb => ?_, fun hb => ?_⟩ <;> (have hc := hb; try simp only [go_sem] at hc)) | refine s_ret rfl ?_) | (with_reducible (show callA ..); first | (refine call_s (sc) ?_ ?_; (focus (simp only [go_sem, *]; done)); simp only [go_sem, *])) | ((with_reducible refine Qb ?_ ?_); focus kernel_rfl) | ((with_reducible refine And.intro ?_ ?_); focus omega) | (refine contA_of hK ?_; clear hK K'; simp only [go_sem, *]) | (simp only [thenA, inBlockA, go_sem, *]))
   all_goals first | contradiction | skip
   all_goals (refine ⟨[_, _], [], [], ⟨rfl, rfl, trivial⟩, ?_⟩; simp only [go_sem, *])
  ·have h3i : ¬ (s.steps.length : Int) > 3 := by omega
   rw [if_neg h3] at hG
   refine spec_body Tryz.func138 rfl (fun E hE => ?_); simp only [go_sem, Tryz.ntmps138]
   repeat' (first | (with_reducible (show runOps ..); first | (refine Qr rfl ?_; try intro K' hK; try simp only [go_sem, *]) | (refine Qi rfl rfl rfl rfl (fun hb K' hK => ?_) (fun hb => ?_) <;> (have hc := hb; try simp only [go_sem] at hc; simp only [go_sem, *]))) | (with_reducible (show Hold ..); first | refine Qh rfl ?_ | refine s_draw rfl Tryz.mixed (by kernel_rfl) ?_ | (refine s_cond rfl ⟨_, rfl, fun hb => ?_, fun hb => ?_⟩ <;> (have hc := hb; try simp only [go_sem] at hc)) | refine s_ret rfl ?_) | (with_reducible (show callA ..); first | (refine call_s (sc) ?_ ?_; (focus (simp only [go_sem, *]; done)); simp only [go_sem, *])) | ((with_reducible refine Qb ?_ ?_); focus kernel_rfl) | ((with_reducible refine And.intro ?_ ?_); focus omega) | (refine contA_of hK ?_; clear hK K'; simp only [go_sem, *]) | (simp only [thenA, inBlockA, go_sem, *]))
   all_goals first | contradiction | skip
   refine s_loop rfl (fun zn zN zenv zAs => ∃ (i : Nat), zn = (s.steps.length) - i ∧ i ≤ (s.steps.length) ∧ (stepsErr0 s (s.steps.drop i) = G) ∧ zN = 96 ∧ zenv = [(25, iV i), (24, iV s.steps.length), (23, .list (s.steps.map encStep)), (1, .ptr 0 0)] ∧ zAs = [.box [.list (s.first.map encStreet), .list (s.steps.map encStep), .list (s.facts.map Fact.enc)]]) (s.steps.length) ⟨[some 0], [], _, _, _, (by (simp only [Weak, go_sem, List.map_append, List.map_set, *] <;> (try simp (disch := omega) only [wrap_succ]) <;> (try simp) <;> (try omega))), 0, (by simp), (by simp), (by exact hG), rfl, rfl, rfl⟩ ?_; rintro _ _ _ _ ⟨i, rfl, hi, hP, rfl, rfl, rfl⟩
   clear hG
   by_cases hi2 : i < s.steps.length
   ·unfold stepsErr0 at hP
    rw [stepsErr_drop hi2] at hP
    have hwi := hwl _ (getD_mem hi2)
    generalize hw : s.steps.getD i default = w at *
    by_cases hw0 : w.length = 0
    ·have hw0i : (w.length : Int) = 0 := by omega
     rw [if_pos hw0, if_neg (by decide)] at hP
     subst hP
     obtain ⟨rfl, rfl⟩ := hR.2 (by decide)
     clear hR
     repeat' (first | (with_reducible (show runOps ..); first | (refine Qr rfl ?_; try intro K' hK; try simp only [go_sem, *]) | (refine Qi rfl rfl rfl rfl (fun hb K' hK => ?_) (fun hb => ?_) <;> (have hc := hb; try simp only [go_sem] at hc; simp only [go_sem, *]))) | (with_reducible (show Hold ..); first | refine Qh rfl ?_ | refine s_draw rfl Tryz.mixed (by kernel_rfl) ?_ | (refine s_cond rfl ⟨_, rfl, fun hb => ?_, fun hb => ?_⟩ <;> (have hc := hb; try simp only [go_sem] at hc)) | refine s_ret rfl ?_) | ((with_reducible refine Qb ?_ ?_); focus kernel_rfl) | ((with_reducible refine And.intro ?_ ?_); focus omega) | (refine contA_of hK ?_; clear hK K'; simp only [go_sem, *]) | (simp only [thenA, inBlockA, go_sem, *]))
     all_goals first | contradiction | skip
     (refine ⟨[_, _], [], [], ⟨rfl, rfl, trivial⟩, ?_⟩; simp only [go_sem, *])
    rw [if_neg hw0] at hP
    have hw0i : ¬ (w.length : Int) = 0 := by omega
    by_cases hw3 : 3 < w.length
    ·have hw3i : (w.length : Int) > 3 := by omega
     rw [if_pos hw3, if_neg (by decide)] at hP
     subst hP
     obtain ⟨rfl, rfl⟩ := hR.2 (by decide)
     clear hR
     repeat' (first | (with_reducible (show runOps ..); first | (refine Qr rfl ?_; try intro K' hK; try simp only [go_sem, *]) | (refine Qi rfl rfl rfl rfl (fun hb K' hK => ?_) (fun hb => ?_) <;> (have hc := hb; try simp only [go_sem] at hc; simp only [go_sem, *]))) | (with_reducible (show Hold ..); first | refine Qh rfl ?_ | refine s_draw rfl Tryz.mixed (by kernel_rfl) ?_ | (refine s_cond rfl ⟨_, rfl, fun hb => ?_, fun hb => ?_⟩ <;> (have hc := hb; try simp only [go_sem] at hc)) | refine s_ret rfl ?_) | ((with_reducible refine Qb ?_ ?_); focus kernel_rfl) | ((with_reducible refine And.intro ?_ ?_); focus omega) | (refine contA_of hK ?_; clear hK K'; simp only [go_sem, *]) | (simp only [thenA, inBlockA, go_sem, *]))
     all_goals first | contradiction | skip
     (refine ⟨[_, _], [], [], ⟨rfl, rfl, trivial⟩, ?_⟩; simp only [go_sem, *])
    rw [if_neg hw3] at hP
    have hw3i : ¬ (w.length : Int) > 3 := by omega
    have hP0 : (if waysErr (w.drop 0) = 0 then stepsErr0 s (s.steps.drop (i + 1)) else 8) = G := by
     rw [← hP, List.drop_zero]
     unfold stepsErr0
     split <;> rfl
    clear hP
    repeat' (first | (with_reducible (show runOps ..); first | (refine Qr rfl ?_; try intro K' hK; try simp only [go_sem, *]) | (refine Qi rfl rfl rfl rfl (fun hb K' hK => ?_) (fun hb => ?_) <;> (have hc := hb; try simp only [go_sem] at hc; simp only [go_sem, *]))) | (with_reducible (show Hold ..); first | refine Qh rfl ?_ | refine s_draw rfl Tryz.mixed (by kernel_rfl) ?_ | (refine s_cond rfl ⟨_, rfl, fun hb => ?_, fun hb => ?_⟩ <;> (have hc := hb; try simp only [go_sem] at hc)) | refine s_ret rfl ?_) | ((with_reducible refine Qb ?_ ?_); focus kernel_rfl) | ((with_reducible refine And.intro ?_ ?_); focus omega) | (refine contA_of hK ?_; clear hK K'; simp only [go_sem, *]) | (simp only [thenA, inBlockA, go_sem, *]))
    all_goals first | contradiction | skip
    refine s_loop rfl (fun zn zN zenv zAs => ∃ (j : Nat), zn = (w.length) - j ∧ j ≤ (w.length) ∧ ((if waysErr (w.drop j) = 0 then stepsErr0 s (s.steps.drop (i + 1)) else 8) = G) ∧ zN = 96 ∧ zenv = [(40, iV j), (39, iV w.length), (38, .list (w.map Change.enc)), (25, iV i), (24, iV s.steps.length), (23, .list (s.steps.map encStep)), (1, .ptr 0 0)] ∧ zAs = [.box [.list (s.first.map encStreet), .list (s.steps.map encStep), .list (s.facts.map Fact.enc)]]) (w.length) ⟨[some 0], [], _, _, _, (by (simp only [Weak, go_sem, List.map_append, List.map_set, *] <;> (try simp (disch := omega) only [wrap_succ]) <;> (try simp) <;> (try omega))), 0, (by simp), (by simp), (by exact hP0), rfl, rfl, rfl⟩ ?_; rintro _ _ _ _ ⟨j, rfl, hj, hQ, rfl, rfl, rfl⟩
    by_cases hj : j < w.length
    ·rw [waysErr_drop hj] at hQ
     have sb := sp_between (w.getD j default).kind 1 7
     by_cases hbt : betw (w.getD j default).kind 1 7 = true
     ·rw [if_pos hbt] at hQ
      rw [hbt] at sb
      repeat' (first | (with_reducible (show runOps ..); first | (refine Qr rfl ?_; try intro K' hK; try simp only [go_sem, *]) | (refine Qi rfl rfl rfl rfl (fun hb K' hK => ?_) (fun hb => ?_) <;> (have hc := hb; try simp only [go_sem] at hc; simp only [go_sem, *]))) | (with_reducible (show Hold ..); first | refine Qh rfl ?_ | refine s_draw rfl Tryz.mixed (by kernel_rfl) ?_ | (refine s_cond rfl ⟨_, rfl, fun hb => ?_, fun hb => ?_⟩ <;> (have hc := hb; try simp only [go_sem] at hc)) | refine s_ret rfl ?_) | (with_reducible (show callA ..); first | (refine call_s (sb) ?_ ?_; (focus (simp only [go_sem, *]; done)); simp only [go_sem, *])) | ((with_reducible refine Qb ?_ ?_); focus kernel_rfl) | ((with_reducible refine And.intro ?_ ?_); focus omega) | (refine contA_of hK ?_; clear hK K'; simp only [go_sem, *]) | (simp only [thenA, inBlockA, go_sem, *]))
      all_goals first | contradiction | skip
      refine ⟨_, (by omega), [some 0], [], _, _, _, (by (simp only [Weak, go_sem, List.map_append, List.map_set, *] <;> (try simp (disch := omega) only [wrap_succ]) <;> (try simp) <;> (try omega))), j + 1, rfl, (by omega), (by exact hQ), rfl, rfl, rfl⟩
     ·rw [if_neg hbt, if_neg (by decide)] at hQ
      rw [Bool.not_eq_true] at hbt
      rw [hbt] at sb
      subst hQ
      obtain ⟨rfl, rfl⟩ := hR.2 (by decide)
      clear hR
      repeat' (first | (with_reducible (show runOps ..); first | (refine Qr rfl ?_; try intro K' hK; try simp only [go_sem, *]) | (refine Qi rfl rfl rfl rfl (fun hb K' hK => ?_) (fun hb => ?_) <;> (have hc := hb; try simp only [go_sem] at hc; simp only [go_sem, *]))) | (with_reducible (show Hold ..); first | refine Qh rfl ?_ | refine s_draw rfl Tryz.mixed (by kernel_rfl) ?_ | (refine s_cond rfl ⟨_, rfl, fun hb => ?_, fun hb => ?_⟩ <;> (have hc := hb; try simp only [go_sem] at hc)) | refine s_ret rfl ?_) | (with_reducible (show callA ..); first | (refine call_s (sb) ?_ ?_; (focus (simp only [go_sem, *]; done)); simp only [go_sem, *])) | ((with_reducible refine Qb ?_ ?_); focus kernel_rfl) | ((with_reducible refine And.intro ?_ ?_); focus omega) | (refine contA_of hK ?_; clear hK K'; simp only [go_sem, *]) | (simp only [thenA, inBlockA, go_sem, *]))
      all_goals first | contradiction | skip
      (refine ⟨[_, _], [], [], ⟨rfl, rfl, trivial⟩, ?_⟩; simp only [go_sem, *])
    ·rw [drop_end (by omega), waysErr, if_pos rfl] at hQ
     repeat' (first | (with_reducible (show runOps ..); first | (refine Qr rfl ?_; try intro K' hK; try simp only [go_sem, *]) | (refine Qi rfl rfl rfl rfl (fun hb K' hK => ?_) (fun hb => ?_) <;> (have hc := hb; try simp only [go_sem] at hc; simp only [go_sem, *]))) | (with_reducible (show Hold ..); first | refine Qh rfl ?_ | refine s_draw rfl Tryz.mixed (by kernel_rfl) ?_ | (refine s_cond rfl ⟨_, rfl, fun hb => ?_, fun hb => ?_⟩ <;> (have hc := hb; try simp only [go_sem] at hc)) | refine s_ret rfl ?_) | ((with_reducible refine Qb ?_ ?_); focus kernel_rfl) | ((with_reducible refine And.intro ?_ ?_); focus omega) | (refine contA_of hK ?_; clear hK K'; simp only [go_sem, *]) | (simp only [thenA, inBlockA, go_sem, *]))
     refine ⟨_, (by omega), [some 0], [], _, _, _, (by (simp only [Weak, go_sem, List.map_append, List.map_set, *] <;> (try simp (disch := omega) only [wrap_succ]) <;> (try simp) <;> (try omega))), i + 1, rfl, (by omega), (by exact hQ), rfl, rfl, rfl⟩
   ·rw [drop_end (by omega), stepsErr0, stepsErr, if_pos rfl] at hP
    by_cases hf4 : 4 < s.facts.length
    ·have hf4i : (s.facts.length : Int) > 4 := by omega
     rw [factsErr0, if_pos hf4] at hP
     subst hP
     obtain ⟨rfl, rfl⟩ := hR.2 (by decide)
     clear hR
     repeat' (first | (with_reducible (show runOps ..); first | (refine Qr rfl ?_; try intro K' hK; try simp only [go_sem, *]) | (refine Qi rfl rfl rfl rfl (fun hb K' hK => ?_) (fun hb => ?_) <;> (have hc := hb; try simp only [go_sem] at hc; simp only [go_sem, *]))) | (with_reducible (show Hold ..); first | refine Qh rfl ?_ | refine s_draw rfl Tryz.mixed (by kernel_rfl) ?_ | (refine s_cond rfl ⟨_, rfl, fun hb => ?_, fun hb => ?_⟩ <;> (have hc := hb; try simp only [go_sem] at hc)) | refine s_ret rfl ?_) | ((with_reducible refine Qb ?_ ?_); focus kernel_rfl) | ((with_reducible refine And.intro ?_ ?_); focus omega) | (refine contA_of hK ?_; clear hK K'; simp only [go_sem, *]) | (simp only [thenA, inBlockA, go_sem, *]))
     all_goals first | contradiction | skip
     (refine ⟨[_, _], [], [], ⟨rfl, rfl, trivial⟩, ?_⟩; simp only [go_sem, *])
    have hf4i : ¬ (s.facts.length : Int) > 4 := by omega
    rw [factsErr0, if_neg hf4] at hP
    repeat' (first | (with_reducible (show runOps ..); first | (refine Qr rfl ?_; try intro K' hK; try simp only [go_sem, *]) | (refine Qi rfl rfl rfl rfl (fun hb K' hK => ?_) (fun hb => ?_) <;> (have hc := hb; try simp only [go_sem] at hc; simp only [go_sem, *]))) | (with_reducible (show Hold ..); first | refine Qh rfl ?_ | refine s_draw rfl Tryz.mixed (by kernel_rfl) ?_ | (refine s_cond rfl ⟨_, rfl, fun hb => ?_, fun hb => ?_⟩ <;> (have hc := hb; try simp only [go_sem] at hc)) | refine s_ret rfl ?_) | (with_reducible (show callA ..); first | (refine call_n (sp_houses' v) ?_ ?_ ?_ ?_; (focus (simp only [go_sem, *]; done)); (focus (first | (simp; done) | (simp [go_sem]; done))); (focus (first | (simp; done) | (simp [go_sem]; done))); simp only [go_sem, *])) | ((with_reducible refine Qb ?_ ?_); focus kernel_rfl) | ((with_reducible refine And.intro ?_ ?_); focus omega) | (refine contA_of hK ?_; clear hK K'; simp only [go_sem, *]) | (simp only [thenA, inBlockA, go_sem, *]))
    all_goals first | contradiction | skip
    clear hi2 hi
    refine s_loop rfl (fun zn zN zenv zAs => ∃ (k : Nat), zn = (s.facts.length) - k ∧ k ≤ (s.facts.length) ∧ (factsErr s.first (s.facts.drop k) = G) ∧ zN = 96 ∧ zenv = [(63, iV k), (62, iV s.facts.length), (61, .list (s.facts.map Fact.enc)), (9, .ptr 1 0), (1, .ptr 0 0)] ∧ zAs = [.box [.list (s.first.map encStreet), .list (s.steps.map encStep), .list (s.facts.map Fact.enc)], .box [.list (s.first.map encStreet), .list (s.steps.map encStep), .list (s.facts.map Fact.enc), .list ((housesOf s.first).map House.enc)]]) (s.facts.length) ⟨[some 0, some 2], [1], _, _, _, (by (simp only [Weak, go_sem, List.map_append, List.map_set, *] <;> (try simp (disch := omega) only [wrap_succ]) <;> (try simp) <;> (try omega))), 0, (by simp), (by simp), (by exact hP), rfl, rfl, rfl⟩ ?_; rintro _ _ _ _ ⟨k, rfl, hk, hQ, rfl, rfl, rfl⟩
    by_cases hk : k < s.facts.length
    ·rw [factsErr_drop hk] at hQ
     have hcn := v.count
     have hln := v.len
     have hwp : IntKind.i64.wrap ((s.first.length : Int) - 1) = (s.first.length : Int) - 1 := wrap_i64 (by omega) (by omega)
     have s1 := sp_Contains_place (housesOf s.first) (s.facts.getD k default).src (by omega)
     have s2 := sp_between (s.facts.getD k default).dst.street 0 ((s.first.length : Int) - 1)
     have s3 := sp_validPlate (s.facts.getD k default).dst.plate
     by_cases q1 : (s.facts.getD k default).src ∈ housesOf s.first
     ·by_cases q2 : betw (s.facts.getD k default).dst.street 0 ((s.first.length : Int) - 1) = true
      ·rw [if_pos ⟨q1, q2⟩] at hQ
       have q1' : decide ((s.facts.getD k default).src ∈ housesOf s.first) = true := by simpa using q1
       rw [q1'] at s1
       rw [q2] at s2
       by_cases q3 : (s.facts.getD k default).dst.plate.ok = true
       ·rw [if_pos q3] at hQ
        rw [q3] at s3
        clear q1 q1' q2 q3
        repeat' (first | (with_reducible (show runOps ..); first | (refine Qr rfl ?_; try intro K' hK; try simp only [go_sem, *]) | (refine Qi rfl rfl rfl rfl (fun hb K' hK => ?_) (fun hb => ?_) <;> (have hc := hb; try simp only [go_sem] at hc; simp only [go_sem, *]))) | (with_reducible (show Hold ..); first | refine Qh rfl ?_ | refine s_draw rfl Tryz.mixed (by kernel_rfl) ?_ | (refine s_cond rfl ⟨_, rfl, fun hb => ?_, fun hb => ?_⟩ <;> (have hc := hb; try simp only [go_sem] at hc)) | refine s_ret rfl ?_) | (with_reducible (show callA ..); first | ((first | refine call_s (s1) ?_ ?_ | refine call_s (s2) ?_ ?_ | refine call_s (s3) ?_ ?_); (focus (simp only [go_sem, *]; done)); simp only [go_sem, *])) | ((with_reducible refine Qb ?_ ?_); focus kernel_rfl) | ((with_reducible refine And.intro ?_ ?_); focus omega) | (refine contA_of hK ?_; clear hK K'; simp only [go_sem, *]) | (simp only [thenA, inBlockA, go_sem, *]))
        all_goals first | contradiction | skip
        refine ⟨_, (by omega), [some 0, some 1], [], _, _, _, (by (simp only [Weak, go_sem, List.map_append, List.map_set, *] <;> (try simp (disch := omega) only [wrap_succ]) <;> (try simp) <;> (try omega))), k + 1, rfl, (by omega), (by exact hQ), rfl, rfl, rfl⟩
       ·rw [if_neg q3] at hQ
        rw [Bool.not_eq_true] at q3
        rw [q3] at s3
        clear q1 q1' q2 q3
        subst hQ
        obtain ⟨rfl, rfl⟩ := hR.2 (by decide)
        clear hR
        repeat' (first | (with_reducible (show runOps ..); first | (refine Qr rfl ?_; try intro K' hK; try simp only [go_sem, *]) | (refine Qi rfl rfl rfl rfl (fun hb K' hK => ?_) (fun hb => ?_) <;> (have hc := hb; try simp only [go_sem] at hc; simp only [go_sem, *]))) | (with_reducible (show Hold ..); first | refine Qh rfl ?_ | refine s_draw rfl Tryz.mixed (by kernel_rfl) ?_ | (refine s_cond rfl ⟨_, rfl, fun hb => ?_, fun hb => ?_⟩ <;> (have hc := hb; try simp only [go_sem] at hc)) | refine s_ret rfl ?_) | (with_reducible (show callA ..); first | ((first | refine call_s (s1) ?_ ?_ | refine call_s (s2) ?_ ?_ | refine call_s (s3) ?_ ?_); (focus (simp only [go_sem, *]; done)); simp only [go_sem, *])) | ((with_reducible refine Qb ?_ ?_); focus kernel_rfl) | ((with_reducible refine And.intro ?_ ?_); focus omega) | (refine contA_of hK ?_; clear hK K'; simp only [go_sem, *]) | (simp only [thenA, inBlockA, go_sem, *]))
        all_goals first | contradiction | skip
        (refine ⟨[_, _], [], [], ⟨rfl, rfl, trivial⟩, ?_⟩; simp only [go_sem, *])
      ·rw [if_neg (fun h => q2 h.2)] at hQ
       have q1' : decide ((s.facts.getD k default).src ∈ housesOf s.first) = true := by simpa using q1
       rw [q1'] at s1
       rw [Bool.not_eq_true] at q2
       rw [q2] at s2
       clear q1 q1' q2
       subst hQ
       obtain ⟨rfl, rfl⟩ := hR.2 (by decide)
       clear hR
       repeat' (first | (with_reducible (show runOps ..); first | (refine Qr rfl ?_; try intro K' hK; try simp only [go_sem, *]) | (refine Qi rfl rfl rfl rfl (fun hb K' hK => ?_) (fun hb => ?_) <;> (have hc := hb; try simp only [go_sem] at hc; simp only [go_sem, *]))) | (with_reducible (show Hold ..); first | refine Qh rfl ?_ | refine s_draw rfl Tryz.mixed (by kernel_rfl) ?_ | (refine s_cond rfl ⟨_, rfl, fun hb => ?_, fun hb => ?_⟩ <;> (have hc := hb; try simp only [go_sem] at hc)) | refine s_ret rfl ?_) | (with_reducible (show callA ..); first | ((first | refine call_s (s1) ?_ ?_ | refine call_s (s2) ?_ ?_ | refine call_s (s3) ?_ ?_); (focus (simp only [go_sem, *]; done)); simp only [go_sem, *])) | ((with_reducible refine Qb ?_ ?_); focus kernel_rfl) | ((with_reducible refine And.intro ?_ ?_); focus omega) | (refine contA_of hK ?_; clear hK K'; simp only [go_sem, *]) | (simp only [thenA, inBlockA, go_sem, *]))
       all_goals first | contradiction | skip
       (refine ⟨[_, _], [], [], ⟨rfl, rfl, trivial⟩, ?_⟩; simp only [go_sem, *])
     ·rw [if_neg (fun h => q1 h.1)] at hQ
      have q1' : decide ((s.facts.getD k default).src ∈ housesOf s.first) = false := by simpa using q1
      rw [q1'] at s1
      clear q1 q1'
      subst hQ
      obtain ⟨rfl, rfl⟩ := hR.2 (by decide)
      clear hR
      repeat' (first | (with_reducible (show runOps ..); first | (refine Qr rfl ?_; try intro K' hK; try simp only [go_sem, *]) | (refine Qi rfl rfl rfl rfl (fun hb K' hK => ?_) (fun hb => ?_) <;> (have hc := hb; try simp only [go_sem] at hc; simp only [go_sem, *]))) | (with_reducible (show Hold ..); first | refine Qh rfl ?_ | refine s_draw rfl Tryz.mixed (by kernel_rfl) ?_ | (refine s_cond rfl ⟨_, rfl, fun hb => ?_, fun hb => ?_⟩ <;> (have hc := hb; try simp only [go_sem] at hc)) | refine s_ret rfl ?_) | (with_reducible (show callA ..); first | ((first | refine call_s (s1) ?_ ?_ | refine call_s (s2) ?_ ?_ | refine call_s (s3) ?_ ?_); (focus (simp only [go_sem, *]; done)); simp only [go_sem, *])) | ((with_reducible refine Qb ?_ ?_); focus kernel_rfl) | ((with_reducible refine And.intro ?_ ?_); focus omega) | (refine contA_of hK ?_; clear hK K'; simp only [go_sem, *]) | (simp only [thenA, inBlockA, go_sem, *]))
      all_goals first | contradiction | skip
      (refine ⟨[_, _], [], [], ⟨rfl, rfl, trivial⟩, ?_⟩; simp only [go_sem, *])
    ·rw [drop_end (by omega), factsErr] at hQ
     obtain ⟨rfl, rfl⟩ := hR.1 hQ.symm
     clear hR
     repeat' (first | (with_reducible (show runOps ..); first | (refine Qr rfl ?_; try intro K' hK; try simp only [go_sem, *]) | (refine Qi rfl rfl rfl rfl (fun hb K' hK => ?_) (fun hb => ?_) <;> (have hc := hb; try simp only [go_sem] at hc; simp only [go_sem, *]))) | (with_reducible (show Hold ..); first | refine Qh rfl ?_ | refine s_draw rfl Tryz.mixed (by kernel_rfl) ?_ | (refine s_cond rfl ⟨_, rfl, fun hb => ?_, fun hb => ?_⟩ <;> (have hc := hb; try simp only [go_sem] at hc)) | refine s_ret rfl ?_) | ((with_reducible refine Qb ?_ ?_); focus kernel_rfl) | ((with_reducible refine And.intro ?_ ?_); focus omega) | (refine contA_of hK ?_; clear hK K'; simp only [go_sem, *]) | (simp only [thenA, inBlockA, go_sem, *]))
     refine ⟨[_, _], [some 1], [], ⟨rfl, rfl, trivial⟩, ?_⟩
     simp only [go_sem, *]
 ·have e : (check s.first == 0) = false := by simpa using hc0
  have e2 : (check s.first != 0) = true := by simpa using hc0
  rw [storyErr, if_neg hc0] at hG
  obtain ⟨rfl, rfl⟩ := hR.2 (by rw [← hG]; exact hc0)
  subst hG
  clear hR hc0
  generalize check s.first = k at *
  refine spec_body Tryz.func138 rfl (fun E hE => ?_); simp only [go_sem, Tryz.ntmps138]
  repeat' (first | (with_reducible (show runOps ..); first | (refine Qr rfl ?_; try intro K' hK; try simp only [go_sem, *]) | (refine Qi rfl rfl rfl rfl (fun hb K' hK => ?_) (fun hb => ?_) <;> (have hc := hb; try simp only [go_sem] at hc; simp only [go_sem, *]))) | (with_reducible (show Hold ..); first | refine Qh rfl ?_ | refine s_draw rfl Tryz.mixed (by kernel_rfl) ?_ | (refine s_cond rfl ⟨_, rfl, fun hb => ?_, fun hb => ?_⟩ <;> (have hc := hb; try simp only [go_sem] at hc)) | refine s_ret rfl ?_) | (with_reducible (show callA ..); first | (refine call_s (sc) ?_ ?_; (focus (simp only [go_sem, *]; done)); simp only [go_sem, *])) | ((with_reducible refine Qb ?_ ?_); focus kernel_rfl) | ((with_reducible refine And.intro ?_ ?_); focus omega) | (refine contA_of hK ?_; clear hK K'; simp only [go_sem, *]) | (simp only [thenA, inBlockA, go_sem, *]))
  all_goals first | contradiction | skip
  all_goals (refine ⟨[_, _], [], [], ⟨rfl, rfl, trivial⟩, ?_⟩; simp only [go_sem, *])
end Go.Abs

namespace Go.Abs
open Go Go.Proofs
set_option maxRecDepth 10000
structure Truth where
 ways : List Int
 fin : Plan
 now : House → List House
@[reducible] def Truth.enc (p : Plan) (t : Truth) : AV := .agg [.list (t.ways.map iV), .list (t.fin.map encStreet), .fmap (keysP p) (movesP p t.now)]
attribute [go_sem] Truth.enc
def fitsT (l : List Fact) (t : Truth) : Bool := l.all fun f => decide (f.dst ∈ t.now f.src)
theorem fitsT_drop {l : List Fact} {t : Truth} {i : Nat} (h : i < l.length) : fitsT (l.drop i) t = (decide ((l.getD i default).dst ∈ t.now (l.getD i default).src) && fitsT (l.drop (i + 1)) t) := by
 rw [drop_cons h]; simp [fitsT]
theorem sp_fits (s : Story) (t : Truth) (v : Valid s.first) (hf : s.facts.length ≤ 1000) (hsrc : ∀ f, f ∈ s.facts → f.src ∈ housesOf s.first) (hnl : ∀ h, h ∈ housesOf s.first → (t.now h).length ≤ 1000) (b : Bool) (hb0 : fitsT (s.facts.drop 0) t = b) :
  Spec Tryz.prog 163 [.ptr 0 0, t.enc s.first] [taleBox s] (bV b) [taleBox s] := by
 have hw := v.wf
 refine spec_body Tryz.func163 rfl (fun E hE => ?_); simp only [go_sem, Tryz.ntmps163]
 repeat' (first | (with_reducible (show runOps ..); first | (refine Qr rfl ?_; try intro K' hK; try simp only [go_sem, *])) | (with_reducible (show Hold ..); first | refine Qh rfl ?_ | refine s_draw rfl Tryz.mixed (by kernel_rfl) ?_ | (refine s_cond rfl ⟨_, rfl, fun hb => ?_, fun hb => ?_⟩ <;> (have hc := hb; try simp only [go_sem] at hc)) | refine s_ret rfl ?_) | ((with_reducible refine Qb ?_ ?_); focus kernel_rfl) | ((with_reducible refine And.intro ?_ ?_); focus omega) | (refine contA_of hK ?_; clear hK K'; simp only [go_sem, *]) | (simp only [thenA, inBlockA, go_sem, *]))
 refine s_loop rfl (fun zn zN zenv zAs => ∃ (i : Nat), zn = (s.facts.length) - i ∧ i ≤ (s.facts.length) ∧ (fitsT (s.facts.drop i) t = b) ∧ zN = 27 ∧ zenv = [(13, iV i), (12, iV s.facts.length), (11, .list (s.facts.map Fact.enc)), (3, .ptr 1 0)] ∧ zAs = [taleBox s, .box [.list (t.ways.map iV), .list (t.fin.map encStreet), .fmap (keysP s.first) (movesP s.first t.now)]]) (s.facts.length) ⟨[some 0, some 1], [], _, _, _, (by (simp only [Weak, go_sem, List.map_append, List.map_set, *] <;> (try simp (disch := omega) only [wrap_succ]) <;> (try simp) <;> (try omega))), 0, (by simp), (by simp), (by exact hb0), rfl, rfl, rfl⟩ ?_; rintro _ _ _ _ ⟨i, rfl, hi, hP, rfl, rfl, rfl⟩
 by_cases hi2 : i < s.facts.length
 ·rw [fitsT_drop hi2] at hP
  have hm := hsrc _ (getD_mem hi2)
  have hl := hnl _ hm
  have hwf := hw _ hm
  have sc := sp_Contains_place (t.now (s.facts.getD i default).src) (s.facts.getD i default).dst (by omega)
  by_cases q : (s.facts.getD i default).dst ∈ t.now (s.facts.getD i default).src
  ·have q' : decide ((s.facts.getD i default).dst ∈ t.now (s.facts.getD i default).src) = true := by simpa using q
   rw [q', Bool.true_and] at hP
   rw [q'] at sc
   clear q q'
   repeat' (first | (with_reducible (show runOps ..); first | (refine Qr rfl ?_; try intro K' hK; try simp only [go_sem, *])) | (with_reducible (show Hold ..); first | refine Qh rfl ?_ | refine s_draw rfl Tryz.mixed (by kernel_rfl) ?_ | (refine s_cond rfl ⟨_, rfl, fun hb => ?_, fun hb => ?_⟩ <;> (have hc := hb; try simp only [go_sem] at hc)) | refine s_ret rfl ?_) | ((with_reducible refine Qb ?_ ?_); focus kernel_rfl) | ((with_reducible refine And.intro ?_ ?_); focus omega) | (refine contA_of hK ?_; clear hK K'; simp only [go_sem, *]) | (simp only [thenA, inBlockA, go_sem, *]))
   refine look_fhouse (h := (s.facts.getD i default).src) (hs := housesOf s.first) (F := MapV t.now) hw hwf ?_
   rw [if_pos hm, MapV]
   repeat' (first | (with_reducible (show runOps ..); first | (refine Qr rfl ?_; try intro K' hK; try simp only [go_sem, *])) | (with_reducible (show Hold ..); first | refine Qh rfl ?_ | refine s_draw rfl Tryz.mixed (by kernel_rfl) ?_ | (refine s_cond rfl ⟨_, rfl, fun hb => ?_, fun hb => ?_⟩ <;> (have hc := hb; try simp only [go_sem] at hc)) | refine s_ret rfl ?_) | (with_reducible (show callA ..); first | (refine call_s (sc) ?_ ?_; (focus (simp only [go_sem, *]; done)); simp only [go_sem, *])) | ((with_reducible refine Qb ?_ ?_); focus kernel_rfl) | ((with_reducible refine And.intro ?_ ?_); focus omega) | (refine contA_of hK ?_; clear hK K'; simp only [go_sem, *]) | (simp only [thenA, inBlockA, go_sem, *]))
   all_goals first | contradiction | skip
   refine ⟨_, (by omega), [some 0, some 1], [], _, _, _, (by (simp only [Weak, go_sem, List.map_append, List.map_set, *] <;> (try simp (disch := omega) only [wrap_succ]) <;> (try simp) <;> (try omega))), i + 1, rfl, (by omega), (by exact hP), rfl, rfl, rfl⟩
  ·have q' : decide ((s.facts.getD i default).dst ∈ t.now (s.facts.getD i default).src) = false := by simpa using q
   rw [q', Bool.false_and] at hP
   rw [q'] at sc
   clear q q'
   subst hP
   repeat' (first | (with_reducible (show runOps ..); first | (refine Qr rfl ?_; try intro K' hK; try simp only [go_sem, *])) | (with_reducible (show Hold ..); first | refine Qh rfl ?_ | refine s_draw rfl Tryz.mixed (by kernel_rfl) ?_ | (refine s_cond rfl ⟨_, rfl, fun hb => ?_, fun hb => ?_⟩ <;> (have hc := hb; try simp only [go_sem] at hc)) | refine s_ret rfl ?_) | ((with_reducible refine Qb ?_ ?_); focus kernel_rfl) | ((with_reducible refine And.intro ?_ ?_); focus omega) | (refine contA_of hK ?_; clear hK K'; simp only [go_sem, *]) | (simp only [thenA, inBlockA, go_sem, *]))
   refine look_fhouse (h := (s.facts.getD i default).src) (hs := housesOf s.first) (F := MapV t.now) hw hwf ?_
   rw [if_pos hm, MapV]
   repeat' (first | (with_reducible (show runOps ..); first | (refine Qr rfl ?_; try intro K' hK; try simp only [go_sem, *])) | (with_reducible (show Hold ..); first | refine Qh rfl ?_ | refine s_draw rfl Tryz.mixed (by kernel_rfl) ?_ | (refine s_cond rfl ⟨_, rfl, fun hb => ?_, fun hb => ?_⟩ <;> (have hc := hb; try simp only [go_sem] at hc)) | refine s_ret rfl ?_) | (with_reducible (show callA ..); first | (refine call_s (sc) ?_ ?_; (focus (simp only [go_sem, *]; done)); simp only [go_sem, *])) | ((with_reducible refine Qb ?_ ?_); focus kernel_rfl) | ((with_reducible refine And.intro ?_ ?_); focus omega) | (refine contA_of hK ?_; clear hK K'; simp only [go_sem, *]) | (simp only [thenA, inBlockA, go_sem, *]))
   all_goals first | contradiction | skip
   refine ⟨[_], [some 0], [], ⟨rfl, trivial⟩, ?_⟩
   simp only [go_sem, *]
 ·rw [drop_end (by omega)] at hP
  subst hP
  repeat' (first | (with_reducible (show runOps ..); first | (refine Qr rfl ?_; try intro K' hK; try simp only [go_sem, *])) | (with_reducible (show Hold ..); first | refine Qh rfl ?_ | refine s_draw rfl Tryz.mixed (by kernel_rfl) ?_ | (refine s_cond rfl ⟨_, rfl, fun hb => ?_, fun hb => ?_⟩ <;> (have hc := hb; try simp only [go_sem] at hc)) | refine s_ret rfl ?_) | ((with_reducible refine Qb ?_ ?_); focus kernel_rfl) | ((with_reducible refine And.intro ?_ ?_); focus omega) | (refine contA_of hK ?_; clear hK K'; simp only [go_sem, *]) | (simp only [thenA, inBlockA, go_sem, *]))
  refine ⟨[_], [some 0], [], ⟨rfl, trivial⟩, ?_⟩
  simp only [go_sem, *]
  simp [fitsT]
end Go.Abs

namespace Go.Abs
open Go
instance : Inhabited Truth := ⟨⟨[], [], fun _ => []⟩⟩
def wayAt (s : Story) (k : Nat) : List Change := s.steps.getD k default
def stepT (t : Truth) (c : Change) (i : Nat) : Truth := ⟨t.ways ++ [(i : Int)], afterOf t.fin c, thenF t.now (mv t.fin c)⟩
def growT (s : Story) : Nat → Truth → List Truth
 | 0, t => if fitsT s.facts t = true then [t] else []
 | n + 1, t => (List.range' 0 (wayAt s t.ways.length).length).flatMap fun i => if can t.fin ((wayAt s t.ways.length).getD i default) = 0 then growT s n (stepT t ((wayAt s t.ways.length).getD i default) i) else []
def growFrom (s : Story) (n : Nat) (t : Truth) (i : Nat) : List Truth :=
 (List.range' i ((wayAt s t.ways.length).length - i)).flatMap fun i => if can t.fin ((wayAt s t.ways.length).getD i default) = 0 then growT s n (stepT t ((wayAt s t.ways.length).getD i default) i) else []
theorem growT_zero {s : Story} {t : Truth} : growT s 0 t = if fitsT s.facts t = true then [t] else [] := by rw [growT]
theorem growT_succ {s : Story} {n : Nat} {t : Truth} : growT s (n + 1) t = growFrom s n t 0 := by rw [growT, growFrom, Nat.sub_zero]
theorem growFrom_step {s : Story} {n i : Nat} {t : Truth} (h : i < (wayAt s t.ways.length).length) :
  growFrom s n t i = (if can t.fin ((wayAt s t.ways.length).getD i default) = 0 then growT s n (stepT t ((wayAt s t.ways.length).getD i default) i) else []) ++ growFrom s n t (i + 1) := by
 unfold growFrom
 rw [show (wayAt s t.ways.length).length - i = ((wayAt s t.ways.length).length - (i + 1)) + 1 by omega, List.range'_succ, List.flatMap_cons]
theorem growFrom_yes {s : Story} {n i : Nat} {t : Truth} (h : i < (wayAt s t.ways.length).length) (hc : can t.fin ((wayAt s t.ways.length).getD i default) = 0) :
  growFrom s n t i = growT s n (stepT t ((wayAt s t.ways.length).getD i default) i) ++ growFrom s n t (i + 1) := by rw [growFrom_step h, if_pos hc]
theorem growFrom_no {s : Story} {n i : Nat} {t : Truth} (h : i < (wayAt s t.ways.length).length) (hc : can t.fin ((wayAt s t.ways.length).getD i default) ≠ 0) :
  growFrom s n t i = growFrom s n t (i + 1) := by rw [growFrom_step h, if_neg hc, List.nil_append]
theorem growFrom_end {s : Story} {n i : Nat} {t : Truth} (h : (wayAt s t.ways.length).length ≤ i) : growFrom s n t i = [] := by
 unfold growFrom
 rw [show (wayAt s t.ways.length).length - i = 0 by omega]; rfl
def firstT (s : Story) : Truth := ⟨[], s.first, fun h => [h]⟩
def truthsOf (s : Story) : List Truth := growT s s.steps.length (firstT s)
structure TOk (s : Story) (n : Nat) (t : Truth) : Prop where
 steps : t.ways.length + n = s.steps.length
 val : Valid t.fin
 town : t.fin.length = s.first.length
 strict : ∀ h, h ∈ housesOf s.first → Strict (t.now h)
 mem : ∀ h, h ∈ housesOf s.first → ∀ x, x ∈ t.now h → x ∈ housesOf t.fin
 len : ∀ h, h ∈ housesOf s.first → (t.now h).length ≤ 2 ^ t.ways.length
theorem firstT_ok {s : Story} (v : Valid s.first) : TOk s s.steps.length (firstT s) where
 steps := by simp [firstT]
 val := v
 town := rfl
 strict := fun h _ => by simp [firstT]
 mem := fun h hh x hx => by
  have : x = h := by simpa [firstT] using hx
  rw [this]; exact hh
 len := fun h _ => by simp [firstT]
theorem TOk.flat_nodup {s : Story} {n : Nat} {t : Truth} (o : TOk s n t) {c : Change} (f : Fit t.fin c) {h : House} (hh : h ∈ housesOf s.first) : ((t.now h).flatMap (mv t.fin c)).Nodup :=
 nodup_flatMap (o.strict h hh).nodup (fun a ha => mv_nodup f (o.mem h hh a ha)) (fun a b ha hb z hz1 hz2 => mv_inj o.val f (o.mem h hh a ha) (o.mem h hh b hb) hz1 hz2)
theorem flat_len {f : House → List House} (hf : ∀ h, (f h).length ≤ 2) : ∀ l : List House, (l.flatMap f).length ≤ 2 * l.length
 | [] => by simp
 | x :: r => by
  have := flat_len hf r
  have := hf x
  simp only [List.flatMap_cons, List.length_append, List.length_cons]; omega
theorem TOk.flat_len {s : Story} {n : Nat} {t : Truth} (o : TOk s n t) {c : Change} (f : Fit t.fin c) {h : House} (hh : h ∈ housesOf s.first) : ((t.now h).flatMap (mv t.fin c)).length ≤ 2 * 2 ^ t.ways.length := by
 have := Go.Abs.flat_len (fun x => mv_len f x) (t.now h)
 have := o.len h hh
 omega
theorem TOk.next {s : Story} {n : Nat} {t : Truth} (o : TOk s (n + 1) t) {c : Change} (hc : can t.fin c = 0) (i : Nat) : TOk s n (stepT t c i) := by
 have f := Fit.of_can hc
 have hn : ∀ h, (stepT t c i).now h = sortH ((t.now h).flatMap (mv t.fin c)) := fun _ => rfl
 refine ⟨?_, valid_after o.val f, ?_, fun h hh => ?_, fun h hh x hx => ?_, fun h hh => ?_⟩
 ·have := o.steps; simp [stepT]; omega
 ·have := o.town
  simp only [stepT, afterOf, laid_length]; exact this
 ·rw [hn]; exact strict_sortH _
 ·rw [hn, mem_sortH] at hx
  obtain ⟨a, ha, hx⟩ := List.mem_flatMap.1 hx
  show x ∈ housesOf (afterOf t.fin c)
  rw [houses_after o.val f, mem_sortH]
  exact mem_flatMv.2 ⟨a, o.mem h hh a ha, hx⟩
 ·rw [hn]
  have h1 := nodup_len (strict_sortH ((t.now h).flatMap (mv t.fin c))).nodup (b := (t.now h).flatMap (mv t.fin c)) (fun x hx => mem_sortH.1 hx)
  have h2 := o.flat_len f hh
  have : (stepT t c i).ways.length = t.ways.length + 1 := by simp [stepT]
  rw [this, Nat.pow_succ]; omega
theorem TOk.small {s : Story} {n : Nat} {t : Truth} (o : TOk s n t) (h3 : s.steps.length ≤ 3) {h : House} (hh : h ∈ housesOf s.first) : (t.now h).length ≤ 8 := by
 have h1 := o.len h hh
 have h2 : t.ways.length ≤ 3 := by have := o.steps; omega
 have : 2 ^ t.ways.length ≤ 2 ^ 3 := Nat.pow_le_pow_right (by omega) h2
 omega
theorem TOk.small2 {s : Story} {n : Nat} {t : Truth} (o : TOk s (n + 1) t) (h3 : s.steps.length ≤ 3) {c : Change} (f : Fit t.fin c) {h : House} (hh : h ∈ housesOf s.first) : ((t.now h).flatMap (mv t.fin c)).length ≤ 8 := by
 have h1 := o.flat_len f hh
 have h2 : t.ways.length ≤ 2 := by have := o.steps; omega
 have : 2 ^ t.ways.length ≤ 2 ^ 2 := Nat.pow_le_pow_right (by omega) h2
 omega
theorem growT_ok {s : Story} : ∀ (n : Nat) {t : Truth}, TOk s n t → ∀ x, x ∈ growT s n t → TOk s 0 x
 | 0, t, o, x, hx => by
  rw [growT_zero] at hx
  split at hx
  ·have : x = t := by simpa using hx
   rw [this]; exact o
  ·simp at hx
 | n + 1, t, o, x, hx => by
  rw [growT] at hx
  obtain ⟨i, _, hx⟩ := List.mem_flatMap.1 hx
  split at hx
  ·rename_i hc
   exact growT_ok n (o.next hc i) x hx
  ·simp at hx
theorem growT_len {s : Story} (hw : ∀ w, w ∈ s.steps → w.length ≤ 3) : ∀ (n : Nat) (t : Truth), (growT s n t).length ≤ 3 ^ n
 | 0, t => by
  rw [growT_zero]
  split <;> simp
 | n + 1, t => by
  rw [growT]
  have hl : (wayAt s t.ways.length).length ≤ 3 := by
   unfold wayAt
   by_cases h : t.ways.length < s.steps.length
   ·exact hw _ (getD_mem h)
   ·have e : s.steps[t.ways.length]? = none := List.getElem?_eq_none (by omega)
    simp only [List.getD, e, Option.getD_none]; show ([] : List Change).length ≤ 3; simp
  have key : ∀ (k i : Nat) (g : Nat → List Truth), (∀ i, (g i).length ≤ 3 ^ n) → ((List.range' i k).flatMap g).length ≤ k * 3 ^ n := by
   intro k
   induction k with
   | zero => intro i g _; simp
   | succ k ih =>
    intro i g hg
    rw [List.range'_succ, List.flatMap_cons, List.length_append, Nat.succ_mul]
    have := ih (i + 1) g hg
    have := hg i
    omega
  refine Nat.le_trans (key _ 0 _ (fun i => ?_)) (Nat.le_trans (Nat.mul_le_mul_right (3 ^ n) hl) (by rw [Nat.pow_succ]; omega))
  split
  ·exact growT_len hw n _
  ·simp
theorem truths_ok {s : Story} (v : Valid s.first) : ∀ x, x ∈ truthsOf s → TOk s 0 x := growT_ok _ (firstT_ok v)
theorem truths_len {s : Story} (h3 : s.steps.length ≤ 3) (hw : ∀ w, w ∈ s.steps → w.length ≤ 3) : (truthsOf s).length ≤ 27 :=
 Nat.le_trans (growT_len hw _ _) (Nat.pow_le_pow_right (by omega) h3 : 3 ^ s.steps.length ≤ 3 ^ 3)
theorem waysErr_zero : ∀ {l : List Change}, waysErr l = 0 ↔ ∀ c, c ∈ l → betw c.kind 1 7 = true
 | [] => by simp [waysErr]
 | c :: r => by
  rw [waysErr]
  split
  ·rename_i h; rw [waysErr_zero]; simp [h]
  ·rename_i h
   constructor
   ·intro e; omega
   ·intro e; exact absurd (e c (by simp)) h
theorem stepsErr_zero : ∀ {l : List (List Change)}, stepsErr l = 0 ↔ ∀ w, w ∈ l → 0 < w.length ∧ w.length ≤ 3 ∧ waysErr w = 0
 | [] => by simp [stepsErr]
 | w :: r => by
  rw [stepsErr]
  split
  ·rename_i h
   constructor
   ·intro e; omega
   ·intro e; have := e w (by simp); omega
  ·split
   ·rename_i h
    constructor
    ·intro e; omega
    ·intro e; have := e w (by simp); omega
   ·split
    ·rename_i h1 h2 h3
     rw [stepsErr_zero]
     constructor
     ·intro e x hx
      rcases List.mem_cons.1 hx with rfl | hx
      ·exact ⟨by omega, by omega, h3⟩
      ·exact e x hx
     ·intro e x hx; exact e x (by simp [hx])
    ·rename_i h3
     constructor
     ·intro e; omega
     ·intro e; exact absurd (e w (by simp)).2.2 h3
theorem factsErr_zero {p : Plan} : ∀ {l : List Fact}, factsErr p l = 0 ↔ ∀ f, f ∈ l → f.src ∈ housesOf p ∧ betw f.dst.street 0 (p.length - 1) = true ∧ f.dst.plate.ok = true
 | [] => by simp [factsErr]
 | f :: r => by
  rw [factsErr]
  split
  ·rename_i h
   split
   ·rename_i h2; rw [factsErr_zero]; simp [h, h2]
   ·rename_i h2
    constructor
    ·intro e; omega
    ·intro e; exact absurd (e f (by simp)).2.2 h2
  ·rename_i h
   constructor
   ·intro e; omega
   ·intro e; exact absurd ⟨(e f (by simp)).1, (e f (by simp)).2.1⟩ h
structure Told (s : Story) : Prop where
 first : Valid s.first
 steps : s.steps.length ≤ 3
 ways : ∀ w, w ∈ s.steps → 0 < w.length ∧ w.length ≤ 3 ∧ waysErr w = 0
 facts : s.facts.length ≤ 4
 fact : ∀ f, f ∈ s.facts → f.src ∈ housesOf s.first ∧ betw f.dst.street 0 (s.first.length - 1) = true ∧ f.dst.plate.ok = true
theorem story_zero {s : Story} (h : storyErr s = 0) : Told s := by
 unfold storyErr at h
 split at h
 ·rename_i h1
  split at h
  ·omega
  ·rename_i h2
   unfold stepsErr0 at h
   split at h
   ·rename_i h3
    unfold factsErr0 at h
    split at h
    ·omega
    ·rename_i h4
     exact ⟨(check_zero _).1 h1, by omega, stepsErr_zero.1 h3, by omega, factsErr_zero.1 h⟩
   ·rename_i h3; exact absurd h h3
 ·rename_i h1; exact absurd h h1
end Go.Abs

namespace Go.Abs
open Go
structure Dice where
 list : List Int
 at_ : Nat
 seed : Int
 deriving Inhabited
abbrev uV (n : Int) : AV := .raw (.int .u64 n)
def diceBox (d : Dice) : AObj := .box [.list (d.list.map iV), iV d.at_, uV d.seed]
def xor64 (a b : Int) : Int := IntKind.u64.wrap (BitVec.ofInt IntKind.u64.bits a ^^^ BitVec.ofInt IntKind.u64.bits b).toNat
def shl64 (a : Int) (k : Nat) : Int := IntKind.u64.wrap (a * 2 ^ (min k IntKind.u64.bits))
def shr64 (a : Int) (k : Nat) : Int := a.fdiv (2 ^ (min k IntKind.u64.bits))
def mix1 (s : Int) : Int := xor64 s (shl64 s 13)
def mix2 (s : Int) : Int := xor64 s (shr64 s 7)
def mix3 (s : Int) : Int := xor64 s (shl64 s 17)
def mixed3 (s : Int) : Int := mix3 (mix2 (mix1 s))
def rawS (d : Dice) : Int := if d.at_ < d.list.length then IntKind.u64.wrap (mixed3 d.seed + IntKind.u64.wrap (IntKind.u64.wrap (d.list.getD d.at_ default) * 13787848793156543929)) else mixed3 d.seed
def rawD (d : Dice) : Dice := ⟨d.list, if d.at_ < d.list.length then d.at_ + 1 else d.at_, rawS d⟩
def rawM (n : Int) : Int := IntKind.u64.wrap (xor64 n (shr64 n 30) * 10723151780598845931)
def rawN (d : Dice) : Int := xor64 (rawM (rawS d)) (shr64 (rawM (rawS d)) 31)
theorem wrap_u64_range (n : Int) : 0 ≤ IntKind.u64.wrap n ∧ IntKind.u64.wrap n < 18446744073709551616 := by
 rw [IntKind.wrap_u64]; omega
theorem rawN_range (d : Dice) : 0 ≤ rawN d ∧ rawN d < 18446744073709551616 := wrap_u64_range _
def toN (n : Int) (d : Dice) : Int := if n < 1 then 0 else (shr64 (rawN d) 16).tmod (n + 1)
def toD (n : Int) (d : Dice) : Dice := if n < 1 then d else rawD d
theorem shr16 (n : Int) (h0 : 0 ≤ n) : 0 ≤ shr64 n 16 := by
 unfold shr64
 rw [Int.fdiv_eq_ediv_of_nonneg _ (by decide)]
 exact Int.ediv_nonneg h0 (by decide)
theorem toN_range (n : Int) (d : Dice) : 0 ≤ toN n d ∧ (toN n d ≤ n ∨ toN n d = 0) := by
 unfold toN
 split
 ·omega
 ·have h := shr16 _ (rawN_range d).1
  rw [Int.tmod_eq_emod_of_nonneg h]
  have h1 := Int.emod_nonneg (shr64 (rawN d) 16) (b := n + 1) (by omega)
  have h2 := Int.emod_lt_of_pos (shr64 (rawN d) 16) (b := n + 1) (by omega)
  omega
theorem toN_le {n : Int} (h : 0 ≤ n) (d : Dice) : 0 ≤ toN n d ∧ toN n d ≤ n := by
 have := toN_range n d; omega
def fromN (lo hi : Int) (d : Dice) : Int := lo + toN (hi - lo) d
def fromD (lo hi : Int) (d : Dice) : Dice := toD (hi - lo) d
theorem fromN_le {lo hi : Int} (h : lo ≤ hi) (d : Dice) : lo ≤ fromN lo hi d ∧ fromN lo hi d ≤ hi := by
 have := toN_le (n := hi - lo) (by omega) d
 unfold fromN; omega
def onceT (k : Int) (d : Dice) : Bool := toN (k - 1) d == 0
def onceR (k : Int) (d : Dice) : Dice := toD (k - 1) d
def insPl (x : Plate) : List Plate → List Plate
 | [] => [x]
 | y :: r => if y.lt x = true then y :: insPl x r else if y = x then y :: r else x :: y :: r
def plateK (n : Int) (b : Bool) (k : Int) (dy dn : Dice) : Plate × Dice := if b = true then (⟨n, k⟩, dy) else (⟨n, 0⟩, dn)
def plateN (d : Dice) : Plate × Dice := plateK (fromN 1 9 d) (onceT 4 (fromD 1 9 d)) (fromN 1 2 (onceR 4 (fromD 1 9 d))) (fromD 1 2 (onceR 4 (fromD 1 9 d))) (onceR 4 (fromD 1 9 d))
def platesN : Nat → Dice → List Plate → List Plate × Dice
 | 0, d, out => (out, d)
 | n + 1, d, out => platesN n (plateN d).2 (insPl (plateN d).1 out)
def platesOf (d : Dice) (most : Int) : List Plate × Dice := platesN (toN most d).toNat (toD most d) []
def streetN (d : Dice) (houses : Int) : List Plate × Dice := platesOf (onceR 3 d) (if onceT 3 d = true then 0 else houses)
def streetsN (houses : Int) : Nat → Dice → Plan → Plan × Dice
 | 0, d, out => (out, d)
 | n + 1, d, out => streetsN houses n (streetN d houses).2 (out ++ [(streetN d houses).1])
def planOf (d : Dice) (houses : Int) : Plan × Dice := streetsN houses (fromN 1 3 d).toNat (fromD 1 3 d) []
theorem mem_insPl {x z : Plate} : ∀ {l : List Plate}, z ∈ insPl x l ↔ z = x ∨ z ∈ l
 | [] => by simp [insPl]
 | y :: r => by
  simp only [insPl]
  split
  ·simp only [List.mem_cons, mem_insPl (l := r)]
   constructor
   ·rintro (h | h | h) <;> simp [h]
   ·rintro (h | h | h) <;> simp [h]
  ·split
   ·rename_i e; subst e; simp
   ·simp
theorem strict_insPl {x : Plate} : ∀ {l : List Plate}, l.Pairwise (fun a b => a.lt b = true) → (insPl x l).Pairwise (fun a b => a.lt b = true)
 | [], _ => by simp [insPl]
 | y :: r, h => by
  obtain ⟨h1, h2⟩ := List.pairwise_cons.1 h
  simp only [insPl]
  split
  ·rename_i hy
   refine List.pairwise_cons.2 ⟨fun z hz => ?_, strict_insPl h2⟩
   rcases mem_insPl.1 hz with rfl | hz
   ·exact hy
   ·exact h1 z hz
  ·rename_i hy
   split
   ·exact h
   ·rename_i hne
    have hxy : x.lt y = true := by
     rcases Plate.lt_tri x y with h | h | h
     ·exact h
     ·exact absurd h.symm hne
     ·exact absurd h hy
    refine List.pairwise_cons.2 ⟨fun z hz => ?_, h⟩
    rcases List.mem_cons.1 hz with rfl | hz
    ·exact hxy
    ·exact Plate.lt_trans hxy (h1 z hz)
theorem insPl_len {x : Plate} : ∀ {l : List Plate}, (insPl x l).length ≤ l.length + 1
 | [] => by simp [insPl]
 | y :: r => by
  simp only [insPl]
  split
  ·simp only [List.length_cons]; have := insPl_len (x := x) (l := r); omega
  ·split <;> simp
theorem insPl_at {x : Plate} : ∀ {l : List Plate} {k : Nat}, k ≤ l.length → (∀ j, j < k → (l.getD j default).lt x = true) → (k < l.length → (l.getD k default).lt x = false) →
  insPl x l = if k < l.length ∧ l.getD k default = x then l else l.take k ++ x :: l.drop k
 | [], k, hk, _, _ => by
  have : k = 0 := by simpa using hk
  subst this
  simp [insPl]
 | y :: r, 0, _, _, h => by
  have h0 : y.lt x = false := by simpa using h (by simp)
  simp only [insPl, h0]
  by_cases e : y = x
  ·simp [e]
  ·simp [e]
 | y :: r, k + 1, hk, hj, h => by
  have h0 : y.lt x = true := by simpa using hj 0 (by omega)
  have ih := insPl_at (x := x) (l := r) (k := k) (by simpa using hk) (fun j hj' => by simpa using hj (j + 1) (by omega)) (fun hk' => by simpa using h (by simpa using hk'))
  simp only [insPl, h0, if_true, ih]
  by_cases e : k < r.length ∧ r.getD k default = x
  ·rw [if_pos e, if_pos (by simpa using e)]
  ·rw [if_neg e, if_neg (by simpa using e)]; simp
theorem plateK_ok {n k : Int} (b : Bool) (dy dn : Dice) (h1 : 1 ≤ n ∧ n ≤ 9) (h2 : 1 ≤ k ∧ k ≤ 2) : (plateK n b k dy dn).1.ok = true := by
 unfold plateK
 split
 ·rw [ok_iff]; simp only; omega
 ·rw [ok_iff]; simp only; omega
theorem plateN_ok (d : Dice) : (plateN d).1.ok = true := plateK_ok _ _ _ (fromN_le (by omega) d) (fromN_le (by omega) _)
theorem platesN_ok : ∀ (n : Nat) (d : Dice) (out : List Plate), out.length + n ≤ 8 → (∀ x, x ∈ out → x.ok = true) → out.Pairwise (fun a b => a.lt b = true) → Sound (platesN n d out).1
 | 0, d, out, hl, ho, hs => ⟨by simpa [platesN] using hl, ho, hs⟩
 | n + 1, d, out, hl, ho, hs => by
  have h1 := insPl_len (x := (plateN d).1) (l := out)
  refine platesN_ok n _ _ (by omega) (fun x hx => ?_) (strict_insPl hs)
  rcases mem_insPl.1 hx with rfl | hx
  ·exact plateN_ok d
  ·exact ho x hx
theorem platesOf_ok {d : Dice} {most : Int} (h : most ≤ 8) : Sound (platesOf d most).1 := by
 have := toN_range most d
 exact platesN_ok _ _ [] (by simp; omega) (by simp) (by simp)
theorem streetsN_ok {houses : Int} (h : houses ≤ 8) : ∀ (n : Nat) (d : Dice) (out : Plan), (∀ l, l ∈ out → Sound l) → (streetsN houses n d out).1.length = out.length + n ∧ ∀ l, l ∈ (streetsN houses n d out).1 → Sound l
 | 0, d, out, ho => ⟨rfl, ho⟩
 | n + 1, d, out, ho => by
  obtain ⟨h1, h2⟩ := streetsN_ok h n (streetN d houses).2 (out ++ [(streetN d houses).1]) (fun l hl => by
   rcases List.mem_append.1 hl with hl | hl
   ·exact ho l hl
   ·have : l = (streetN d houses).1 := by simpa using hl
    rw [this]
    exact platesOf_ok (by split <;> omega))
  refine ⟨?_, h2⟩
  have : (streetsN houses (n + 1) d out).1 = (streetsN houses n (streetN d houses).2 (out ++ [(streetN d houses).1])).1 := rfl
  rw [this, h1]; simp; omega
theorem planOf_ok {d : Dice} {houses : Int} (h : houses ≤ 8) : Valid (planOf d houses).1 := by
 have h0 := fromN_le (lo := 1) (hi := 3) (by omega) d
 obtain ⟨h1, h2⟩ := streetsN_ok h (fromN 1 3 d).toNat (fromD 1 3 d) [] (by simp)
 have e : (planOf d houses).1 = (streetsN houses (fromN 1 3 d).toNat (fromD 1 3 d) []).1 := rfl
 simp only [List.length_nil, Nat.zero_add] at h1
 exact ⟨by rw [e, h1]; omega, by rw [e, h1]; omega, fun l hl => h2 l (by rw [← e]; exact hl)⟩
def somePlate (d : Dice) (l : List Plate) : Plate × Dice :=
 if l.length = 0 then (⟨fromN 1 9 d, 0⟩, fromD 1 9 d)
 else if onceT 12 d = true then (⟨fromN 1 9 (onceR 12 d), 0⟩, fromD 1 9 (onceR 12 d))
 else (l.getD (toN (l.length - 1) (onceR 12 d)).toNat default, toD (l.length - 1) (onceR 12 d))
def changeAt (d : Dice) (p : Plan) (kind : Int) (s : Int) : Change × Dice :=
 if kind = 4 then (⟨4, s, (s + fromN 1 2 d) % p.length, zeroPlate, zeroPlate⟩, fromD 1 2 d)
 else if kind = 7 then
  let o := (s + fromN 1 2 d) % p.length
  let a := somePlate (fromD 1 2 d) (rowAt p s)
  let b := somePlate a.2 (rowAt p s)
  if b.1.lt a.1 = true then (⟨7, s, o, b.1, a.1⟩, b.2) else (⟨7, s, o, a.1, b.1⟩, b.2)
 else if kind = 5 ∨ kind = 6 then
  let a := somePlate d (rowAt p s)
  (⟨kind, s, 0, a.1, zeroPlate⟩, a.2)
 else (⟨kind, s, 0, zeroPlate, zeroPlate⟩, d)
def changeOf (d : Dice) (p : Plan) : Change × Dice := changeAt (toD (p.length - 1) (fromD 1 7 d)) p (fromN 1 7 d) (toN (p.length - 1) (fromD 1 7 d))
theorem len_flatMap_one {α β : Type} {f : α → List β} : ∀ {l : List α}, (∀ a, a ∈ l → (f a).length = 1) → (l.flatMap f).length = l.length
 | [], _ => rfl
 | x :: r, h => by
  rw [List.flatMap_cons, List.length_append, h x (by simp), len_flatMap_one (fun a ha => h a (by simp [ha])), List.length_cons]; omega
theorem len_flatMap_but {α β : Type} [DecidableEq α] {f : α → List β} {a : α} : ∀ {l : List α}, l.Nodup → a ∈ l → (∀ x, x ∈ l → x ≠ a → (f x).length = 1) → (l.flatMap f).length + 1 = l.length + (f a).length
  | [], _, h, _ => by simp at h
  | x :: r, hn, hm, h => by
    obtain ⟨h1, h2⟩ := List.nodup_cons.1 hn
    rw [List.flatMap_cons, List.length_append, List.length_cons]
    by_cases e : x = a
    · subst e
      rw [len_flatMap_one (fun y hy => h y (by simp [hy]) (fun e => h1 (e ▸ hy)))]; omega
    · have hr : a ∈ r := by
        rcases List.mem_cons.1 hm with rfl | hm
        · exact absurd rfl e
        · exact hm
      have := len_flatMap_but h2 hr (fun y hy => h y (by simp [hy]))
      rw [h x (by simp) e]; omega
theorem sortH_len {l : List House} (h : l.Nodup) : (sortH l).length = l.length :=
 Nat.le_antisymm (nodup_len (strict_sortH l).nodup (fun _ hx => mem_sortH.1 hx)) (nodup_len h (fun _ hx => mem_sortH.2 hx))
theorem houses_count {p : Plan} {c : Change} (v : Valid p) (f : Fit p c) :
  ((housesOf (afterOf p c)).length : Int) = (housesOf p).length + (if c.kind = 5 then 1 else if c.kind = 6 then -1 else 0) := by
 rw [houses_after v f, sortH_len (flatMv_nodup v f)]
 unfold flatMv
 have hs := f.street
 have hone : ∀ h : House, (h.street = c.street → (toP p c h.plate).length = 1) → (mv p c h).length = 1 := fun h hh => by
  unfold mv; split
  ·rename_i e; exact hh e
  ·rfl
 rcases kinds f.kind with k | k | k | k | k | k | k
 ·rw [len_flatMap_one (fun h _ => hone h (fun _ => by rw [to_turn k]; rfl))]; simp [k]
 ·rw [len_flatMap_one (fun h _ => hone h (fun _ => by rw [to_swap k]; rfl))]; simp [k]
 ·rw [len_flatMap_one (fun h _ => hone h (fun _ => by rw [to_count k]; rfl))]; simp [k]
 ·rw [len_flatMap_one (fun h _ => hone h (fun _ => by rw [to_join k]; rfl))]; simp [k]
 ·have hin := (fits_divide k f.fits).1
  have hm : (⟨c.street, c.src⟩ : House) ∈ housesOf p := mem_houses.2 ⟨hs.1, hs.2, hin⟩
  have := len_flatMap_but v.nodup hm (f := mv p c) (fun x _ hx => hone x (fun e => by
   rw [to_divide k, if_neg (fun e2 => hx (by cases x; simp_all))]; rfl))
  have h2 : (mv p c ⟨c.street, c.src⟩).length = 2 := by simp [mv, to_divide k]
  rw [h2] at this
  simp only [k, if_true]; omega
 ·have hin := fits_fell k f.fits
  have hm : (⟨c.street, c.src⟩ : House) ∈ housesOf p := mem_houses.2 ⟨hs.1, hs.2, hin⟩
  have := len_flatMap_but v.nodup hm (f := mv p c) (fun x _ hx => hone x (fun e => by
   rw [to_fell k, if_neg (fun e2 => hx (by cases x; simp_all))]; rfl))
  have h2 : (mv p c ⟨c.street, c.src⟩).length = 0 := by simp [mv, to_fell k]
  rw [h2] at this
  rw [if_neg (by omega), if_pos k]; omega
 ·rw [len_flatMap_one (fun h _ => hone h (fun _ => by rw [to_court k]; split <;> rfl))]; simp [k]
end Go.Abs

namespace Go.Abs
open Go
def sameNow (l : List Truth) (h : House) (x : Truth) : Nat := l.countP fun y => decide (x.now h = y.now h)
def groupOf (l : List Truth) (h : House) : Nat := l.foldl (fun m x => max m (sameNow l h x)) 0
def leastGo (g : List Nat) : List Nat → Nat → Int → Int
 | [], _, at_ => at_
 | x :: r, i, at_ => leastGo g r (i + 1) (if at_ < 0 ∨ x < g.getD at_.toNat 0 then i else at_)
def leastOf (g : List Nat) : Int := leastGo g g 0 (-1)
def groupsOf (s : Story) : List Nat := (housesOf s.first).map (groupOf (truthsOf s))
def askOf (s : Story) : Option (House × Nat) :=
 if (truthsOf s).length = 0 ∨ leastOf (groupsOf s) < 0 ∨ (groupsOf s).getD (leastOf (groupsOf s)).toNat 0 = (truthsOf s).length then none
 else some ((housesOf s.first).getD (leastOf (groupsOf s)).toNat default, (groupsOf s).getD (leastOf (groupsOf s)).toNat 0)
def whereL (s : Story) (h : House) : List House := (truthsOf s).flatMap fun t => t.now h
def whereErr (s : Story) (h : House) : Int := if storyErr s = 0 then if h ∈ housesOf s.first then if truthsOf s = [] then 11 else 0 else 3 else storyErr s
def whereOf (s : Story) (h : House) : List House := sortH (whereL s h)
def waysOf (s : Story) : List (List Int) := (truthsOf s).map fun t => t.ways
def askErr (s : Story) : Int := if storyErr s = 0 then (if (askOf s).isSome = true then 0 else 11) else storyErr s
def rowX (l : List Int) : List Plate := l.map fun n => ⟨n, 0⟩
def townX : Plan := [rowX [1, 2, 3, 4, 5], rowX [1, 2], []]
def atX (s n : Int) : House := ⟨s, ⟨n, 0⟩⟩
def joinX : Change := ⟨4, 1, 0, zeroPlate, zeroPlate⟩
def turnX : Change := ⟨1, 0, 0, zeroPlate, zeroPlate⟩
def swapX : Change := ⟨2, 0, 0, zeroPlate, zeroPlate⟩
def fellX : Change := ⟨6, 0, 0, ⟨3, 0⟩, zeroPlate⟩
def taleX : Story := ⟨townX, [[turnX, swapX], [joinX]], []⟩
def planX : Plan := [rowX [1, 2, 3, 4, 5, 7, 8], [], []]
def planY : Plan := [rowX [1, 2, 4, 5, 7, 8], [], []]
theorem x_err : errOf townX joinX = 0 := by kernel_rfl
theorem x_after : afterOf townX joinX = planX := by kernel_rfl
theorem x_story : storyErr taleX = 0 := by kernel_rfl
theorem x_ways : waysOf taleX = [[0, 0], [1, 0]] := by kernel_rfl
theorem x_whereL : whereL taleX (atX 0 1) = [atX 0 5, atX 0 2] := by kernel_rfl
theorem x_whereErr : whereErr taleX (atX 0 1) = 0 := by
 unfold whereErr
 rw [if_pos x_story, if_pos (by decide), if_neg]
 intro h
 have := x_ways
 unfold waysOf at this
 rw [h] at this
 cases this
theorem x_where : whereOf taleX (atX 0 1) = [atX 0 2, atX 0 5] := by kernel_rfl
theorem x_ask : askOf taleX = some (atX 0 1, 1) := by kernel_rfl
theorem x_guess : guessOf townX planY = some [joinX, fellX] := by kernel_rfl
end Go.Abs

namespace Go.Abs
open Go
theorem insH_at {x : House} : ∀ {l : List House} {k : Nat}, k ≤ l.length → (∀ j, j < k → (l.getD j default).lt x = true) → (k < l.length → (l.getD k default).lt x = false) →
  insH x l = if k < l.length ∧ l.getD k default = x then l else l.take k ++ x :: l.drop k
 | [], k, hk, _, _ => by
  have : k = 0 := by simpa using hk
  subst this
  simp [insH]
 | y :: r, 0, _, _, h => by
  have h0 : y.lt x = false := by simpa using h (by simp)
  simp only [insH, h0]
  by_cases e : y = x
  ·simp [e]
  ·simp [e]
 | y :: r, k + 1, hk, hj, h => by
  have h0 : y.lt x = true := by simpa using hj 0 (by omega)
  have ih := insH_at (x := x) (l := r) (k := k) (by simpa using hk) (fun j hj' => by simpa using hj (j + 1) (by omega)) (fun hk' => by simpa using h (by simpa using hk'))
  simp only [insH, h0, if_true, ih]
  by_cases e : k < r.length ∧ r.getD k default = x
  ·rw [if_pos e, if_pos (by simpa using e)]
  ·rw [if_neg e, if_neg (by simpa using e)]; simp
theorem insH_len {x : House} : ∀ {l : List House}, (insH x l).length ≤ l.length + 1
 | [] => by simp [insH]
 | y :: r => by
  simp only [insH]
  split
  ·simp only [List.length_cons]; have := insH_len (x := x) (l := r); omega
  ·split <;> simp
theorem foldH_len : ∀ (l out : List House), (l.foldl (fun out x => insH x out) out).length ≤ out.length + l.length
 | [], out => by simp
 | x :: r, out => by
  have h1 := foldH_len r (insH x out)
  have h2 := insH_len (x := x) (l := out)
  simp only [List.foldl_cons, List.length_cons]; omega
structure Move where
 src : House
 dst : House
 deriving DecidableEq, Inhabited
@[reducible] def Move.enc (m : Move) : AV := .agg [iV m.src.street, iV m.src.plate.number, iV m.src.plate.letter, iV m.dst.street, iV m.dst.plate.number, iV m.dst.plate.letter]
attribute [go_sem] Move.enc
def movesOf (p : Plan) (c : Change) : List Move := (housesOf p).flatMap fun h => (mv p c h).map fun z => ⟨h, z⟩
theorem moves_dst (p : Plan) (c : Change) : (movesOf p c).map Move.dst = flatMv p c := by
 unfold movesOf flatMv
 rw [List.map_flatMap]
 simp [Function.comp_def]
theorem mv_len_all (p : Plan) (c : Change) (h : House) : (mv p c h).length ≤ 2 := by
 unfold mv toP
 repeat' split
 all_goals simp
theorem moves_len (p : Plan) (c : Change) : (movesOf p c).length ≤ 2 * (housesOf p).length := by
 unfold movesOf
 have : ∀ l : List House, (l.flatMap fun h => (mv p c h).map fun z => (⟨h, z⟩ : Move)).length ≤ 2 * l.length := fun l => by
  induction l with
  | nil => simp
  | cons x r ih =>
   have := mv_len_all p c x
   simp only [List.flatMap_cons, List.length_append, List.length_map, List.length_cons]; omega
 exact this _
def becomesErr (p : Plan) (c : Change) (h : House) : Int := if errOf p c = 0 then (if h ∈ housesOf p then 0 else 3) else errOf p c
def becomesOf (p : Plan) (c : Change) (h : House) : List House := if becomesErr p c h = 0 then sortH (mv p c h) else []
def wasOf (p : Plan) (c : Change) (h : House) : Option House := (housesOf p).find? fun x => decide (h ∈ mv p c x)
def wasErr (p : Plan) (c : Change) (h : House) : Int := if errOf p c = 0 then (if (wasOf p c h).isSome = true then 0 else 3) else errOf p c
end Go.Abs

namespace Go.Abs
open Go Go.Proofs
structure Plate.Wf (x : Plate) : Prop where
 n : (Lit.int .i64 x.number).wf = true
 l : (Lit.int .i64 x.letter).wf = true
structure PlanB (N : Nat) (p : Plan) : Prop where
 len : p.length ≤ N
 rows : ∀ l, l ∈ p → l.length ≤ N
 wf : ∀ l, l ∈ p → ∀ x, x ∈ l → x.Wf
structure Bound (N : Nat) (s : Story) : Prop where
 first : PlanB N s.first
 steps : s.steps.length ≤ N
 ways : ∀ w, w ∈ s.steps → w.length ≤ N
 facts : s.facts.length ≤ N
 wf : ∀ f, f ∈ s.facts → f.src.Wf ∧ f.dst.Wf
theorem PlanB.house {N : Nat} {p : Plan} (b : PlanB N p) (hN : N ≤ 4294967296) : ∀ h, h ∈ housesOf p → h.Wf := fun h hh => by
 obtain ⟨h0, h1, h2⟩ := mem_houses.1 hh
 have hl := b.len
 have w := b.wf _ (rowAt_mem h0 h1) _ h2
 exact ⟨wf_small (by omega) (by omega), w.n, w.l⟩
theorem err_zero {p : Plan} {c : Change} (h : errOf p c = 0) : Valid p ∧ Fit p c := by
 unfold errOf at h
 split at h
 ·rename_i hc; exact ⟨(check_zero p).1 hc, Fit.of_can h⟩
 ·rename_i hc; exact absurd h hc
theorem was_some {p : Plan} {c : Change} {h x : House} (e : wasOf p c h = some x) : x ∈ housesOf p ∧ h ∈ mv p c x := by
 unfold wasOf at e
 exact ⟨List.mem_of_find?_eq_some e, by simpa using List.find?_some e⟩
theorem was_none {p : Plan} {c : Change} {h : House} (e : wasOf p c h = none) : ∀ x, x ∈ housesOf p → h ∉ mv p c x := fun x hx => by
 unfold wasOf at e
 simpa using List.find?_eq_none.1 e x hx
theorem was_uniq {p : Plan} {c : Change} {h x : House} (v : Valid p) (f : Fit p c) (hx : x ∈ housesOf p) (hm : h ∈ mv p c x) : wasOf p c h = some x := by
 cases e : wasOf p c h with
 | none => exact absurd hm (was_none e x hx)
 | some y =>
  obtain ⟨h1, h2⟩ := was_some e
  rw [mv_inj v f h1 hx h2 hm]
theorem was_not {p : Plan} {c : Change} {h : House} (hn : ∀ x, x ∈ housesOf p → h ∉ mv p c x) : wasOf p c h = none := by
 cases e : wasOf p c h with
 | none => rfl
 | some y =>
  obtain ⟨h1, h2⟩ := was_some e
  exact absurd h2 (hn y h1)
theorem was_after {p : Plan} {c : Change} {h : House} (v : Valid p) (f : Fit p c) (hh : h ∈ housesOf (afterOf p c)) : ∃ x, wasOf p c h = some x ∧ x ∈ housesOf p ∧ h ∈ mv p c x := by
 rw [houses_after v f, mem_sortH] at hh
 obtain ⟨x, h1, h2⟩ := mem_flatMv.1 hh
 exact ⟨x, was_uniq v f h1 h2, h1, h2⟩
def zeroH : House := ⟨0, ⟨0, 0⟩⟩
def wasH (p : Plan) (c : Change) (h : House) : House := if wasErr p c h = 0 then (wasOf p c h).getD zeroH else zeroH
theorem was_case {p : Plan} {c : Change} {h : House} :
  (errOf p c ≠ 0 ∧ wasErr p c h = errOf p c ∧ wasH p c h = zeroH) ∨ (errOf p c = 0 ∧ wasOf p c h = none ∧ wasErr p c h = 3 ∧ wasH p c h = zeroH) ∨ (errOf p c = 0 ∧ wasErr p c h = 0 ∧ wasOf p c h = some (wasH p c h)) := by
 unfold wasH wasErr
 by_cases e : errOf p c = 0
 ·cases w : wasOf p c h with
  | none => right; left; simp [e]
  | some x => right; right; simp [e]
 ·left; simp [e]
theorem becomes_case {p : Plan} {c : Change} {h : House} :
  (errOf p c ≠ 0 ∧ becomesErr p c h = errOf p c ∧ becomesOf p c h = []) ∨ (errOf p c = 0 ∧ h ∉ housesOf p ∧ becomesErr p c h = 3 ∧ becomesOf p c h = []) ∨ (errOf p c = 0 ∧ h ∈ housesOf p ∧ becomesErr p c h = 0 ∧ becomesOf p c h = sortH (mv p c h)) := by
 unfold becomesOf becomesErr
 by_cases e : errOf p c = 0
 ·by_cases m : h ∈ housesOf p
  ·right; right; simp [e, m]
  ·right; left; simp [e, m]
 ·left; simp [e]
theorem houses_le {p : Plan} {N : Nat} (h : ∀ l, l ∈ p → l.length ≤ N) : (housesOf p).length ≤ p.length * N := by
 have key : ∀ (p : Plan) (k : Nat), (∀ l, l ∈ p → l.length ≤ N) → (housesFrom k p).length ≤ p.length * N := by
  intro p
  induction p with
  | nil => intro k _; simp [housesFrom]
  | cons l r ih =>
   intro k h
   have h1 := h l (by simp)
   have h2 := ih (k + 1) (fun x hx => h x (by simp [hx]))
   simp only [housesFrom, List.length_append, List.length_map, List.length_cons, Nat.succ_mul]; omega
 exact key p 0 h
end Go.Abs

namespace Go.Abs
open Go Go.Proofs
set_option maxRecDepth 10000
@[reducible] def encInts (l : List Int) : AV := .list (l.map iV)
attribute [go_sem] encInts
theorem sp_EqInts (a b : List Int) (h1 : a.length ≤ 4294967296) : Spec Tryz.prog 61 [encInts a, encInts b] [] (bV (decide (a = b))) [] := by
 refine spec_body Tryz.func61 rfl (fun E hE => ?_); simp only [go_sem, Tryz.ntmps61]
 repeat' (first | (with_reducible (show runOps ..); first | (refine Qr rfl ?_; try intro K' hK; try simp only [go_sem, *])) | (with_reducible (show Hold ..); first | refine Qh rfl ?_ | refine s_draw rfl Tryz.mixed (by kernel_rfl) ?_ | (refine s_cond rfl ⟨_, rfl, fun hb => ?_, fun hb => ?_⟩ <;> (have hc := hb; try simp only [go_sem] at hc)) | refine s_ret rfl ?_) | ((with_reducible refine Qb ?_ ?_); focus kernel_rfl) | ((with_reducible refine And.intro ?_ ?_); focus omega) | (refine contA_of hK ?_; clear hK K'; simp only [go_sem, *]) | (simp only [thenA, inBlockA, go_sem, *]))
 ·(refine ⟨[_], [], [], ⟨rfl, trivial⟩, ?_⟩; simp only [go_sem, *])
  simp [len_no (a := a) (b := b) (by assumption)]
 ·have hlb : a.length = b.length := by assumption
  refine s_loop rfl (fun zn zN zenv zAs => ∃ (i : Nat), zn = (b.length) - i ∧ i ≤ (b.length) ∧ (a.take i = b.take i) ∧ zN = 26 ∧ zenv = [(5, iV i), (0, encInts a), (1, encInts b)] ∧ zAs = []) (b.length) ⟨[], [], _, _, _, (by (simp only [Weak, go_sem, List.map_append, List.map_set, *] <;> (try simp (disch := omega) only [wrap_succ]) <;> (try simp) <;> (try omega))), 0, (by simp), (by simp), (by simp), rfl, rfl, rfl⟩ ?_; rintro _ _ _ _ ⟨i, rfl, hi, hP, rfl, rfl, rfl⟩
  repeat' (first | (with_reducible (show runOps ..); first | (refine Qr rfl ?_; try intro K' hK; try simp only [go_sem, *])) | (with_reducible (show Hold ..); first | refine Qh rfl ?_ | refine s_draw rfl Tryz.mixed (by kernel_rfl) ?_ | (refine s_cond rfl ⟨_, rfl, fun hb => ?_, fun hb => ?_⟩ <;> (have hc := hb; try simp only [go_sem] at hc)) | refine s_ret rfl ?_) | ((with_reducible refine Qb ?_ ?_); focus kernel_rfl) | ((with_reducible refine And.intro ?_ ?_); focus omega) | (refine contA_of hK ?_; clear hK K'; simp only [go_sem, *]) | (simp only [thenA, inBlockA, go_sem, *]))
  ·(refine ⟨[_], [], [], ⟨rfl, trivial⟩, ?_⟩; simp only [go_sem, *])
   simp [tk_no (a := a) (b := b) (i := i) (by assumption)]
  ·refine ⟨_, (by omega), [], [], _, _, _, (by (simp only [Weak, go_sem, List.map_append, List.map_set, *] <;> (try simp (disch := omega) only [wrap_succ]) <;> (try simp) <;> (try omega))), i + 1, rfl, (by omega), (by exact tk_next (by omega) (by omega) hP (by assumption)), rfl, rfl, rfl⟩
  ·(refine ⟨[_], [], [], ⟨rfl, trivial⟩, ?_⟩; simp only [go_sem, *])
   simp [tk_end (by omega) hlb hP]
theorem sp_EqLists (a b : List (List Int)) (h1 : a.length ≤ 4294967296) (hrl : ∀ l, l ∈ a → l.length ≤ 4294967296) : Spec Tryz.prog 44 [.list (a.map encInts), .list (b.map encInts)] [] (bV (decide (a = b))) [] := by
 refine spec_body Tryz.func44 rfl (fun E hE => ?_); simp only [go_sem, Tryz.ntmps44]
 repeat' (first | (with_reducible (show runOps ..); first | (refine Qr rfl ?_; try intro K' hK; try simp only [go_sem, *])) | (with_reducible (show Hold ..); first | refine Qh rfl ?_ | refine s_draw rfl Tryz.mixed (by kernel_rfl) ?_ | (refine s_cond rfl ⟨_, rfl, fun hb => ?_, fun hb => ?_⟩ <;> (have hc := hb; try simp only [go_sem] at hc)) | refine s_ret rfl ?_) | ((with_reducible refine Qb ?_ ?_); focus kernel_rfl) | ((with_reducible refine And.intro ?_ ?_); focus omega) | (refine contA_of hK ?_; clear hK K'; simp only [go_sem, *]) | (simp only [thenA, inBlockA, go_sem, *]))
 ·(refine ⟨[_], [], [], ⟨rfl, trivial⟩, ?_⟩; simp only [go_sem, *])
  simp [len_no (a := a) (b := b) (by assumption)]
 ·have hlb : a.length = b.length := by assumption
  refine s_loop rfl (fun zn zN zenv zAs => ∃ (i : Nat), zn = (b.length) - i ∧ i ≤ (b.length) ∧ (a.take i = b.take i) ∧ zN = 27 ∧ zenv = [(5, iV i), (0, .list (a.map encInts)), (1, .list (b.map encInts))] ∧ zAs = []) (b.length) ⟨[], [], _, _, _, (by (simp only [Weak, go_sem, List.map_append, List.map_set, *] <;> (try simp (disch := omega) only [wrap_succ]) <;> (try simp) <;> (try omega))), 0, (by simp), (by simp), (by simp), rfl, rfl, rfl⟩ ?_; rintro _ _ _ _ ⟨i, rfl, hi, hP, rfl, rfl, rfl⟩
  repeat' (first | (with_reducible (show runOps ..); first | (refine Qr rfl ?_; try intro K' hK; try simp only [go_sem, *])) | (with_reducible (show Hold ..); first | refine Qh rfl ?_ | refine s_draw rfl Tryz.mixed (by kernel_rfl) ?_ | (refine s_cond rfl ⟨_, rfl, fun hb => ?_, fun hb => ?_⟩ <;> (have hc := hb; try simp only [go_sem] at hc)) | refine s_ret rfl ?_) | (with_reducible (show callA ..); first | (refine call_s (sp_EqInts (List.getD a i default) (List.getD b i default) (hrl _ (getD_mem (by omega)))) ?_ ?_; (focus (simp only [go_sem, *]; done)); simp only [go_sem, *])) | ((with_reducible refine Qb ?_ ?_); focus kernel_rfl) | ((with_reducible refine And.intro ?_ ?_); focus omega) | (refine contA_of hK ?_; clear hK K'; simp only [go_sem, *]) | (simp only [thenA, inBlockA, go_sem, *]))
  ·(refine ⟨[_], [], [], ⟨rfl, trivial⟩, ?_⟩; simp only [go_sem, *])
   simp [tk_no (a := a) (b := b) (i := i) (by assumption)]
  ·refine ⟨_, (by omega), [], [], _, _, _, (by (simp only [Weak, go_sem, List.map_append, List.map_set, *] <;> (try simp (disch := omega) only [wrap_succ]) <;> (try simp) <;> (try omega))), i + 1, rfl, (by omega), (by exact tk_next (by omega) (by omega) hP (by assumption)), rfl, rfl, rfl⟩
  ·(refine ⟨[_], [], [], ⟨rfl, trivial⟩, ?_⟩; simp only [go_sem, *])
   simp [tk_end (by omega) hlb hP]
theorem sp_EqPlaces (a b : List House) (h1 : a.length ≤ 4294967296) : Spec Tryz.prog 37 [encHouses a, encHouses b] [] (bV (decide (a = b))) [] := by
 refine spec_body Tryz.func37 rfl (fun E hE => ?_); simp only [go_sem, Tryz.ntmps37]
 repeat' (first | (with_reducible (show runOps ..); first | (refine Qr rfl ?_; try intro K' hK; try simp only [go_sem, *])) | (with_reducible (show Hold ..); first | refine Qh rfl ?_ | refine s_draw rfl Tryz.mixed (by kernel_rfl) ?_ | (refine s_cond rfl ⟨_, rfl, fun hb => ?_, fun hb => ?_⟩ <;> (have hc := hb; try simp only [go_sem] at hc)) | refine s_ret rfl ?_) | ((with_reducible refine Qb ?_ ?_); focus kernel_rfl) | ((with_reducible refine And.intro ?_ ?_); focus omega) | (refine contA_of hK ?_; clear hK K'; simp only [go_sem, *]) | (simp only [thenA, inBlockA, go_sem, *]))
 ·(refine ⟨[_], [], [], ⟨rfl, trivial⟩, ?_⟩; simp only [go_sem, *])
  simp [len_no (a := a) (b := b) (by assumption)]
 ·have hlb : a.length = b.length := by assumption
  refine s_loop rfl (fun zn zN zenv zAs => ∃ (i : Nat), zn = (b.length) - i ∧ i ≤ (b.length) ∧ (a.take i = b.take i) ∧ zN = 26 ∧ zenv = [(5, iV i), (0, encHouses a), (1, encHouses b)] ∧ zAs = []) (b.length) ⟨[], [], _, _, _, (by (simp only [Weak, go_sem, List.map_append, List.map_set, *] <;> (try simp (disch := omega) only [wrap_succ]) <;> (try simp) <;> (try omega))), 0, (by simp), (by simp), (by simp), rfl, rfl, rfl⟩ ?_; rintro _ _ _ _ ⟨i, rfl, hi, hP, rfl, rfl, rfl⟩
  repeat' (first | (with_reducible (show runOps ..); first | (refine Qr rfl ?_; try intro K' hK; try simp only [go_sem, *])) | (with_reducible (show Hold ..); first | refine Qh rfl ?_ | refine s_draw rfl Tryz.mixed (by kernel_rfl) ?_ | (refine s_cond rfl ⟨_, rfl, fun hb => ?_, fun hb => ?_⟩ <;> (have hc := hb; try simp only [go_sem] at hc)) | refine s_ret rfl ?_) | ((with_reducible refine Qb ?_ ?_); focus kernel_rfl) | ((with_reducible refine And.intro ?_ ?_); focus omega) | (refine contA_of hK ?_; clear hK K'; simp only [go_sem, *]) | (simp only [thenA, inBlockA, go_sem, *]))
  ·(refine ⟨[_], [], [], ⟨rfl, trivial⟩, ?_⟩; simp only [go_sem, *])
   simp [tk_no (a := a) (b := b) (i := i) (by assumption)]
  ·refine ⟨_, (by omega), [], [], _, _, _, (by (simp only [Weak, go_sem, List.map_append, List.map_set, *] <;> (try simp (disch := omega) only [wrap_succ]) <;> (try simp) <;> (try omega))), i + 1, rfl, (by omega), (by exact tk_next (by omega) (by omega) hP (by assumption)), rfl, rfl, rfl⟩
  ·(refine ⟨[_], [], [], ⟨rfl, trivial⟩, ?_⟩; simp only [go_sem, *])
   simp [tk_end (by omega) hlb hP]
theorem sp_EqChanges (a b : List Change) (h1 : a.length ≤ 4294967296) : Spec Tryz.prog 33 [.list (a.map Change.enc), .list (b.map Change.enc)] [] (bV (decide (a = b))) [] := by
 refine spec_body Tryz.func33 rfl (fun E hE => ?_); simp only [go_sem, Tryz.ntmps33]
 repeat' (first | (with_reducible (show runOps ..); first | (refine Qr rfl ?_; try intro K' hK; try simp only [go_sem, *])) | (with_reducible (show Hold ..); first | refine Qh rfl ?_ | refine s_draw rfl Tryz.mixed (by kernel_rfl) ?_ | (refine s_cond rfl ⟨_, rfl, fun hb => ?_, fun hb => ?_⟩ <;> (have hc := hb; try simp only [go_sem] at hc)) | refine s_ret rfl ?_) | ((with_reducible refine Qb ?_ ?_); focus kernel_rfl) | ((with_reducible refine And.intro ?_ ?_); focus omega) | (refine contA_of hK ?_; clear hK K'; simp only [go_sem, *]) | (simp only [thenA, inBlockA, go_sem, *]))
 ·(refine ⟨[_], [], [], ⟨rfl, trivial⟩, ?_⟩; simp only [go_sem, *])
  simp [len_no (a := a) (b := b) (by assumption)]
 ·have hlb : a.length = b.length := by assumption
  refine s_loop rfl (fun zn zN zenv zAs => ∃ (i : Nat), zn = (b.length) - i ∧ i ≤ (b.length) ∧ (a.take i = b.take i) ∧ zN = 26 ∧ zenv = [(5, iV i), (0, .list (a.map Change.enc)), (1, .list (b.map Change.enc))] ∧ zAs = []) (b.length) ⟨[], [], _, _, _, (by (simp only [Weak, go_sem, List.map_append, List.map_set, *] <;> (try simp (disch := omega) only [wrap_succ]) <;> (try simp) <;> (try omega))), 0, (by simp), (by simp), (by simp), rfl, rfl, rfl⟩ ?_; rintro _ _ _ _ ⟨i, rfl, hi, hP, rfl, rfl, rfl⟩
  repeat' (first | (with_reducible (show runOps ..); first | (refine Qr rfl ?_; try intro K' hK; try simp only [go_sem, *])) | (with_reducible (show Hold ..); first | refine Qh rfl ?_ | refine s_draw rfl Tryz.mixed (by kernel_rfl) ?_ | (refine s_cond rfl ⟨_, rfl, fun hb => ?_, fun hb => ?_⟩ <;> (have hc := hb; try simp only [go_sem] at hc)) | refine s_ret rfl ?_) | ((with_reducible refine Qb ?_ ?_); focus kernel_rfl) | ((with_reducible refine And.intro ?_ ?_); focus omega) | (refine contA_of hK ?_; clear hK K'; simp only [go_sem, *]) | (simp only [thenA, inBlockA, go_sem, *]))
  ·(refine ⟨[_], [], [], ⟨rfl, trivial⟩, ?_⟩; simp only [go_sem, *])
   simp [tk_no (a := a) (b := b) (i := i) (by assumption)]
  ·refine ⟨_, (by omega), [], [], _, _, _, (by (simp only [Weak, go_sem, List.map_append, List.map_set, *] <;> (try simp (disch := omega) only [wrap_succ]) <;> (try simp) <;> (try omega))), i + 1, rfl, (by omega), (by exact tk_next (by omega) (by omega) hP (by assumption)), rfl, rfl, rfl⟩
  ·(refine ⟨[_], [], [], ⟨rfl, trivial⟩, ?_⟩; simp only [go_sem, *])
   simp [tk_end (by omega) hlb hP]
theorem sp_EqPlans (a b : Plan) (h1 : a.length ≤ 4294967296) (hrl : ∀ l, l ∈ a → l.length ≤ 4294967296) : Spec Tryz.prog 29 [encPlan a, encPlan b] [] (bV (decide (a = b))) [] := by
 refine spec_body Tryz.func29 rfl (fun E hE => ?_); simp only [go_sem, Tryz.ntmps29]
 repeat' (first | (with_reducible (show runOps ..); first | (refine Qr rfl ?_; try intro K' hK; try simp only [go_sem, *])) | (with_reducible (show Hold ..); first | refine Qh rfl ?_ | refine s_draw rfl Tryz.mixed (by kernel_rfl) ?_ | (refine s_cond rfl ⟨_, rfl, fun hb => ?_, fun hb => ?_⟩ <;> (have hc := hb; try simp only [go_sem] at hc)) | refine s_ret rfl ?_) | ((with_reducible refine Qb ?_ ?_); focus kernel_rfl) | ((with_reducible refine And.intro ?_ ?_); focus omega) | (refine contA_of hK ?_; clear hK K'; simp only [go_sem, *]) | (simp only [thenA, inBlockA, go_sem, *]))
 ·(refine ⟨[_], [], [], ⟨rfl, trivial⟩, ?_⟩; simp only [go_sem, *])
  simp [len_no (a := a) (b := b) (by assumption)]
 ·have hlb : a.length = b.length := by assumption
  refine s_loop rfl (fun zn zN zenv zAs => ∃ (i : Nat), zn = (b.length) - i ∧ i ≤ (b.length) ∧ (a.take i = b.take i) ∧ zN = 61 ∧ zenv = [(5, iV i), (2, .ptr 0 0), (3, .ptr 1 0)] ∧ zAs = [pBox a, pBox b]) (b.length) ⟨[some 0, some 1], [], _, _, _, (by (simp only [Weak, go_sem, List.map_append, List.map_set, *] <;> (try simp (disch := omega) only [wrap_succ]) <;> (try simp) <;> (try omega))), 0, (by simp), (by simp), (by simp), rfl, rfl, rfl⟩ ?_; rintro _ _ _ _ ⟨i, rfl, hi, hP, rfl, rfl, rfl⟩
  by_cases hi2 : i < b.length
  ·have hra := hrl _ (getD_mem (l := a) (i := i) (by omega))
   have hia : i < a.length := by omega
   obtain ⟨e1, he1⟩ : ∃ e1, e1 = a.getD i default := ⟨_, rfl⟩
   obtain ⟨e2, he2⟩ : ∃ e2, e2 = b.getD i default := ⟨_, rfl⟩
   have nx0 : e1 = e2 → a.take (i + 1) = b.take (i + 1) := fun e => tk_next (by omega) (by omega) hP (by rw [← he1, ← he2]; exact e)
   have no0 : ¬ e1 = e2 → ¬ a = b := fun e => tk_no (i := i) (by rw [← he1, ← he2]; exact e)
   rw [← he1] at hra
   repeat' (first | (with_reducible (show runOps ..); first | (refine Qr rfl ?_; try intro K' hK; try simp only [go_sem, *])) | (with_reducible (show Hold ..); first | refine Qh rfl ?_ | refine s_draw rfl Tryz.mixed (by kernel_rfl) ?_ | (refine s_cond rfl ⟨_, rfl, fun hb => ?_, fun hb => ?_⟩ <;> (have hc := hb; try simp only [go_sem] at hc)) | refine s_ret rfl ?_) | ((with_reducible refine Qb ?_ ?_); focus kernel_rfl) | ((with_reducible refine And.intro ?_ ?_); focus omega) | (refine contA_of hK ?_; clear hK K'; simp only [go_sem, *]) | (simp only [thenA, inBlockA, go_sem, *]))
   ·rw [← he1, ← he2] at *
    (refine ⟨[_], [], [], ⟨rfl, trivial⟩, ?_⟩; simp only [go_sem, *])
    simp [no0 (len_no (by assumption))]
   ·have hl2 : (a.getD i default).length = (b.getD i default).length := by assumption
    have hkb : (b.getD i default).length ≤ 4294967296 := by rw [← hl2, ← he1]; exact hra
    refine s_loop rfl (fun zn zN zenv zAs => ∃ (k : Nat), zn = ((b.getD i default).length) - k ∧ k ≤ ((b.getD i default).length) ∧ ((a.getD i default).take k = (b.getD i default).take k) ∧ zN = 61 ∧ zenv = [(6, iV k), (5, iV i), (2, .ptr 0 0), (3, .ptr 1 0)] ∧ zAs = [pBox a, pBox b]) ((b.getD i default).length) ⟨[some 0, some 1], [], _, _, _, (by (simp only [Weak, go_sem, List.map_append, List.map_set, *] <;> (try simp (disch := omega) only [wrap_succ]) <;> (try simp) <;> (try omega))), 0, (by simp), (by simp), (by simp), rfl, rfl, rfl⟩ ?_; rintro _ _ _ _ ⟨k, rfl, hk, hQ, rfl, rfl, rfl⟩
    repeat' (first | (with_reducible (show runOps ..); first | (refine Qr rfl ?_; try intro K' hK; try simp only [go_sem, *])) | (with_reducible (show Hold ..); first | refine Qh rfl ?_ | refine s_draw rfl Tryz.mixed (by kernel_rfl) ?_ | (refine s_cond rfl ⟨_, rfl, fun hb => ?_, fun hb => ?_⟩ <;> (have hc := hb; try simp only [go_sem] at hc)) | refine s_ret rfl ?_) | ((with_reducible refine Qb ?_ ?_); focus kernel_rfl) | ((with_reducible refine And.intro ?_ ?_); focus omega) | (refine contA_of hK ?_; clear hK K'; simp only [go_sem, *]) | (simp only [thenA, inBlockA, go_sem, *]))
    ·(refine ⟨[_], [], [], ⟨rfl, trivial⟩, ?_⟩; simp only [go_sem, *])
     simp [no0 (by rw [he1, he2]; exact tk_no (i := k) (by assumption))]
    ·refine ⟨_, (by omega), [some 0, some 1], [], _, _, _, (by (simp only [Weak, go_sem, List.map_append, List.map_set, *] <;> (try simp (disch := omega) only [wrap_succ]) <;> (try simp) <;> (try omega))), k + 1, rfl, (by omega), (by exact tk_next (by omega) (by omega) hQ (by assumption)), rfl, rfl, rfl⟩
    ·refine ⟨_, (by omega), [some 0, some 1], [], _, _, _, (by (simp only [Weak, go_sem, List.map_append, List.map_set, *] <;> (try simp (disch := omega) only [wrap_succ]) <;> (try simp) <;> (try omega))), i + 1, rfl, (by omega), (by exact nx0 (by rw [he1, he2]; exact tk_end (by omega) hl2 hQ)), rfl, rfl, rfl⟩
  ·repeat' (first | (with_reducible (show runOps ..); first | (refine Qr rfl ?_; try intro K' hK; try simp only [go_sem, *])) | (with_reducible (show Hold ..); first | refine Qh rfl ?_ | refine s_draw rfl Tryz.mixed (by kernel_rfl) ?_ | (refine s_cond rfl ⟨_, rfl, fun hb => ?_, fun hb => ?_⟩ <;> (have hc := hb; try simp only [go_sem] at hc)) | refine s_ret rfl ?_) | ((with_reducible refine Qb ?_ ?_); focus kernel_rfl) | ((with_reducible refine And.intro ?_ ?_); focus omega) | (refine contA_of hK ?_; clear hK K'; simp only [go_sem, *]) | (simp only [thenA, inBlockA, go_sem, *]))
   (refine ⟨[_], [], [], ⟨rfl, trivial⟩, ?_⟩; simp only [go_sem, *])
   simp [tk_end (by omega) hlb hP]
theorem sp_row (l : List Int) (h1 : l.length ≤ 1000) : Spec Tryz.prog 81 [encInts l] [] (encStreet (rowX l)) [] := by
 refine spec_body Tryz.func81 rfl (fun E hE => ?_); simp only [go_sem, Tryz.ntmps81]
 repeat' (first | (with_reducible (show runOps ..); first | (refine Qr rfl ?_; try intro K' hK; try simp only [go_sem, *])) | (with_reducible (show Hold ..); first | refine Qh rfl ?_ | (refine s_cond rfl ⟨_, rfl, fun hb => ?_, fun hb => ?_⟩ <;> (have hc := hb; try simp only [go_sem] at hc)) | refine s_ret rfl ?_) | ((with_reducible refine Qb ?_ ?_); focus kernel_rfl) | ((with_reducible refine And.intro ?_ ?_); focus omega) | (refine contA_of hK ?_; clear hK K'; simp only [go_sem, *]) | (simp only [thenA, inBlockA, go_sem, *]))
 refine s_loop rfl (fun zn zN zenv zAs => ∃ (i : Nat) (acc : List Plate), zn = (l.length) - i ∧ i ≤ (l.length) ∧ (acc ++ rowX (l.drop i) = rowX l) ∧ zN = 20 ∧ zenv = [(4, iV i), (3, .own 0 2 0 acc.length), (0, encInts l)] ∧ zAs = [.row 2 (acc.map Plate.enc)]) (l.length) ⟨[none], [], _, _, _, (by (simp only [Weak, go_sem, List.map_append, List.map_set, *] <;> (try simp (disch := omega) only [wrap_succ]) <;> (try simp) <;> (try omega))), 0, [], (by simp), (by simp), (by simp), rfl, rfl, rfl⟩ ?_; rintro _ _ _ _ ⟨i, acc, rfl, hi, hP, rfl, rfl, rfl⟩
 have hlen := congrArg List.length hP
 simp only [rowX, List.length_append, List.length_map, List.length_drop] at hlen
 repeat' (first | (with_reducible (show runOps ..); first | (refine Qr rfl ?_; try intro K' hK; try simp only [go_sem, *])) | (with_reducible (show Hold ..); first | refine Qh rfl ?_ | (refine s_cond rfl ⟨_, rfl, fun hb => ?_, fun hb => ?_⟩ <;> (have hc := hb; try simp only [go_sem] at hc)) | refine s_ret rfl ?_) | ((with_reducible refine Qb ?_ ?_); focus kernel_rfl) | ((with_reducible refine And.intro ?_ ?_); focus omega) | (refine contA_of hK ?_; clear hK K'; simp only [go_sem, *]) | (simp only [thenA, inBlockA, go_sem, *]))
 ·have hi2 : i < l.length := by assumption
  refine ⟨_, (by omega), [some 2], [], _, _, _, (by (simp only [Weak, go_sem, List.map_append, List.map_set, *] <;> (try simp (disch := omega) only [wrap_succ]) <;> (try simp) <;> (try omega))), i + 1, acc ++ [⟨l.getD i default, 0⟩], rfl, (by omega), (by rw [← hP, drop_cons hi2]; simp [rowX]), rfl, rfl, rfl⟩
 ·rw [drop_end (by omega)] at hP
  have hP2 : acc = rowX l := by simpa [rowX] using hP
  subst hP2
  refine ⟨[_], [], [0], ⟨rfl, trivial⟩, ?_⟩
  simp only [go_sem, *]
  simp [List.take_of_length_le]
theorem sp_plan (a b c : List Plate) : Spec Tryz.prog 80 [encStreet a, encStreet b, encStreet c] [] (encPlan [a, b, c]) [] := by
 refine spec_body Tryz.func80 rfl (fun E hE => ?_); simp only [go_sem, Tryz.ntmps80]
 repeat' (first | (with_reducible (show runOps ..); first | (refine Qr rfl ?_; try intro K' hK; try simp only [go_sem, *])) | (with_reducible (show Hold ..); first | refine Qh rfl ?_ | (refine s_cond rfl ⟨_, rfl, fun hb => ?_, fun hb => ?_⟩ <;> (have hc := hb; try simp only [go_sem] at hc)) | refine s_ret rfl ?_) | ((with_reducible refine Qb ?_ ?_); focus kernel_rfl) | ((with_reducible refine And.intro ?_ ?_); focus omega) | (refine contA_of hK ?_; clear hK K'; simp only [go_sem, *]) | (simp only [thenA, inBlockA, go_sem, *]))
 refine ⟨[.agg [.own 1 1 0 3]], [], [1], ⟨by simp only [resOne, go_sem], trivial⟩, ?_⟩
 simp only [go_sem, *]
theorem sp_lat (s n : Int) : Spec Tryz.prog 79 [iV s, iV n] [] (atX s n).enc [] := by
 refine spec_body Tryz.func79 rfl (fun E hE => ?_); simp only [go_sem, Tryz.ntmps79]
 repeat' (first | (with_reducible (show runOps ..); first | (refine Qr rfl ?_; try intro K' hK; try simp only [go_sem, *])) | (with_reducible (show Hold ..); first | refine Qh rfl ?_ | (refine s_cond rfl ⟨_, rfl, fun hb => ?_, fun hb => ?_⟩ <;> (have hc := hb; try simp only [go_sem] at hc)) | refine s_ret rfl ?_) | ((with_reducible refine Qb ?_ ?_); focus kernel_rfl) | ((with_reducible refine And.intro ?_ ?_); focus omega) | (refine contA_of hK ?_; clear hK K'; simp only [go_sem, *]) | (simp only [thenA, inBlockA, go_sem, *]))
 refine ⟨[(atX s n).enc], [], [], ⟨(by simp only [resOne, go_sem, atX]), trivial⟩, ?_⟩; simp only [go_sem, *]
theorem sp_join (s o : Int) : Spec Tryz.prog 77 [iV s, iV o] [] (Change.enc ⟨4, s, o, zeroPlate, zeroPlate⟩) [] := by
 refine spec_body Tryz.func77 rfl (fun E hE => ?_); simp only [go_sem, Tryz.ntmps77]
 repeat' (first | (with_reducible (show runOps ..); first | (refine Qr rfl ?_; try intro K' hK; try simp only [go_sem, *])) | (with_reducible (show Hold ..); first | refine Qh rfl ?_ | (refine s_cond rfl ⟨_, rfl, fun hb => ?_, fun hb => ?_⟩ <;> (have hc := hb; try simp only [go_sem] at hc)) | refine s_ret rfl ?_) | ((with_reducible refine Qb ?_ ?_); focus kernel_rfl) | ((with_reducible refine And.intro ?_ ?_); focus omega) | (refine contA_of hK ?_; clear hK K'; simp only [go_sem, *]) | (simp only [thenA, inBlockA, go_sem, *]))
 refine ⟨[Change.enc ⟨4, s, o, zeroPlate, zeroPlate⟩], [], [], ⟨(by simp only [resOne, go_sem, zeroPlate]), trivial⟩, ?_⟩; simp only [go_sem, *]
theorem sp_turn (s : Int) : Spec Tryz.prog 123 [iV s] [] (Change.enc ⟨1, s, 0, zeroPlate, zeroPlate⟩) [] := by
 refine spec_body Tryz.func123 rfl (fun E hE => ?_); simp only [go_sem, Tryz.ntmps123]
 repeat' (first | (with_reducible (show runOps ..); first | (refine Qr rfl ?_; try intro K' hK; try simp only [go_sem, *])) | (with_reducible (show Hold ..); first | refine Qh rfl ?_ | (refine s_cond rfl ⟨_, rfl, fun hb => ?_, fun hb => ?_⟩ <;> (have hc := hb; try simp only [go_sem] at hc)) | refine s_ret rfl ?_) | ((with_reducible refine Qb ?_ ?_); focus kernel_rfl) | ((with_reducible refine And.intro ?_ ?_); focus omega) | (refine contA_of hK ?_; clear hK K'; simp only [go_sem, *]) | (simp only [thenA, inBlockA, go_sem, *]))
 refine ⟨[Change.enc ⟨1, s, 0, zeroPlate, zeroPlate⟩], [], [], ⟨(by simp only [resOne, go_sem, zeroPlate]), trivial⟩, ?_⟩; simp only [go_sem, *]
theorem sp_swap (s : Int) : Spec Tryz.prog 124 [iV s] [] (Change.enc ⟨2, s, 0, zeroPlate, zeroPlate⟩) [] := by
 refine spec_body Tryz.func124 rfl (fun E hE => ?_); simp only [go_sem, Tryz.ntmps124]
 repeat' (first | (with_reducible (show runOps ..); first | (refine Qr rfl ?_; try intro K' hK; try simp only [go_sem, *])) | (with_reducible (show Hold ..); first | refine Qh rfl ?_ | (refine s_cond rfl ⟨_, rfl, fun hb => ?_, fun hb => ?_⟩ <;> (have hc := hb; try simp only [go_sem] at hc)) | refine s_ret rfl ?_) | ((with_reducible refine Qb ?_ ?_); focus kernel_rfl) | ((with_reducible refine And.intro ?_ ?_); focus omega) | (refine contA_of hK ?_; clear hK K'; simp only [go_sem, *]) | (simp only [thenA, inBlockA, go_sem, *]))
 refine ⟨[Change.enc ⟨2, s, 0, zeroPlate, zeroPlate⟩], [], [], ⟨(by simp only [resOne, go_sem, zeroPlate]), trivial⟩, ?_⟩; simp only [go_sem, *]
theorem sp_one (k s n : Int) : Spec Tryz.prog 82 [iV k, iV s, iV n] [] (Change.enc ⟨k, s, 0, ⟨n, 0⟩, zeroPlate⟩) [] := by
 refine spec_body Tryz.func82 rfl (fun E hE => ?_); simp only [go_sem, Tryz.ntmps82]
 repeat' (first | (with_reducible (show runOps ..); first | (refine Qr rfl ?_; try intro K' hK; try simp only [go_sem, *])) | (with_reducible (show Hold ..); first | refine Qh rfl ?_ | (refine s_cond rfl ⟨_, rfl, fun hb => ?_, fun hb => ?_⟩ <;> (have hc := hb; try simp only [go_sem] at hc)) | refine s_ret rfl ?_) | ((with_reducible refine Qb ?_ ?_); focus kernel_rfl) | ((with_reducible refine And.intro ?_ ?_); focus omega) | (refine contA_of hK ?_; clear hK K'; simp only [go_sem, *]) | (simp only [thenA, inBlockA, go_sem, *]))
 refine ⟨[Change.enc ⟨k, s, 0, ⟨n, 0⟩, zeroPlate⟩], [], [], ⟨(by simp only [resOne, go_sem, zeroPlate]), trivial⟩, ?_⟩; simp only [go_sem, *]
theorem sp_town : Spec Tryz.prog 76 [] [] (encPlan townX) [] := by
 have s1 := sp_row [1, 2, 3, 4, 5] (by decide)
 have s2 := sp_row [1, 2] (by decide)
 have s3 := sp_plan (rowX [1, 2, 3, 4, 5]) (rowX [1, 2]) []
 refine spec_body Tryz.func76 rfl (fun E hE => ?_); simp only [go_sem, Tryz.ntmps76]
 repeat' (first | (with_reducible (show runOps ..); first | (refine Qr rfl ?_; try intro K' hK; try simp only [go_sem, *])) | (with_reducible (show Hold ..); first | refine Qh rfl ?_ | (refine s_cond rfl ⟨_, rfl, fun hb => ?_, fun hb => ?_⟩ <;> (have hc := hb; try simp only [go_sem] at hc)) | refine s_ret rfl ?_) | ((with_reducible refine Qb ?_ ?_); focus kernel_rfl) | ((with_reducible refine And.intro ?_ ?_); focus omega) | (refine contA_of hK ?_; clear hK K'; simp only [go_sem, *]) | (simp only [thenA, inBlockA, go_sem, *]))
 (refine call_fz (s1) (by simp only [go_sem, *]; done) rfl (by simp only [go_sem]; done) (by simp) (by simp) ?_; simp only [go_sem, deads, *])
 repeat' (first | (with_reducible (show runOps ..); first | (refine Qr rfl ?_; try intro K' hK; try simp only [go_sem, *])) | (with_reducible (show Hold ..); first | refine Qh rfl ?_ | (refine s_cond rfl ⟨_, rfl, fun hb => ?_, fun hb => ?_⟩ <;> (have hc := hb; try simp only [go_sem] at hc)) | refine s_ret rfl ?_) | ((with_reducible refine Qb ?_ ?_); focus kernel_rfl) | ((with_reducible refine And.intro ?_ ?_); focus omega) | (refine contA_of hK ?_; clear hK K'; simp only [go_sem, *]) | (simp only [thenA, inBlockA, go_sem, *]))
 (refine call_fz (s2) (by simp only [go_sem, *]; done) rfl (by simp only [go_sem]; done) (by simp) (by simp) ?_; simp only [go_sem, deads, *])
 repeat' (first | (with_reducible (show runOps ..); first | (refine Qr rfl ?_; try intro K' hK; try simp only [go_sem, *])) | (with_reducible (show Hold ..); first | refine Qh rfl ?_ | (refine s_cond rfl ⟨_, rfl, fun hb => ?_, fun hb => ?_⟩ <;> (have hc := hb; try simp only [go_sem] at hc)) | refine s_ret rfl ?_) | ((with_reducible refine Qb ?_ ?_); focus kernel_rfl) | ((with_reducible refine And.intro ?_ ?_); focus omega) | (refine contA_of hK ?_; clear hK K'; simp only [go_sem, *]) | (simp only [thenA, inBlockA, go_sem, *]))
 (refine call_fz (s3) (by simp only [go_sem, *]; done) rfl (by simp only [go_sem]; done) (by simp) (by simp) ?_; simp only [go_sem, deads, *])
 repeat' (first | (with_reducible (show runOps ..); first | (refine Qr rfl ?_; try intro K' hK; try simp only [go_sem, *])) | (with_reducible (show Hold ..); first | refine Qh rfl ?_ | (refine s_cond rfl ⟨_, rfl, fun hb => ?_, fun hb => ?_⟩ <;> (have hc := hb; try simp only [go_sem] at hc)) | refine s_ret rfl ?_) | ((with_reducible refine Qb ?_ ?_); focus kernel_rfl) | ((with_reducible refine And.intro ?_ ?_); focus omega) | (refine contA_of hK ?_; clear hK K'; simp only [go_sem, *]) | (simp only [thenA, inBlockA, go_sem, *]))
 refine ⟨[encPlan townX], [], [], ⟨(by simp only [resOne, go_sem, townX]), trivial⟩, ?_⟩; simp only [go_sem, *]
theorem sp_tale : Spec Tryz.prog 78 [.list []] [] taleX.enc [] := by
 refine spec_body Tryz.func78 rfl (fun E hE => ?_); simp only [go_sem, Tryz.ntmps78]
 repeat' (first | (with_reducible (show runOps ..); first | (refine Qr rfl ?_; try intro K' hK; try simp only [go_sem, *])) | (with_reducible (show Hold ..); first | refine Qh rfl ?_ | (refine s_cond rfl ⟨_, rfl, fun hb => ?_, fun hb => ?_⟩ <;> (have hc := hb; try simp only [go_sem] at hc)) | refine s_ret rfl ?_) | (with_reducible (show callA ..); first | ((first | refine call_s (sp_town) ?_ ?_ | refine call_s (sp_turn 0) ?_ ?_ | refine call_s (sp_swap 0) ?_ ?_ | refine call_s (sp_join 1 0) ?_ ?_); (focus (simp only [go_sem, *]; done)); simp only [go_sem, *])) | ((with_reducible refine Qb ?_ ?_); focus kernel_rfl) | ((with_reducible refine And.intro ?_ ?_); focus omega) | (refine contA_of hK ?_; clear hK K'; simp only [go_sem, *]) | (simp only [thenA, inBlockA, go_sem, *]))
 refine ⟨[.agg [.list (townX.map encStreet), .own 3 1 0 2, .list []]], [], [3], ⟨by simp only [resOne, go_sem], trivial⟩, ?_⟩
 simp only [go_sem, *]
 exact ⟨rfl, rfl, rfl⟩
end Go.Abs

namespace Go.Abs
open Go Go.Proofs
set_option maxRecDepth 10000
theorem sp_Equal_place (a b : List House) (h1 : a.length ≤ 4294967296) : Spec Tryz.prog 140 [.list (a.map House.enc), .list (b.map House.enc)] [] (bV (decide (a = b))) [] := by
 refine spec_body Tryz.func140 rfl (fun E hE => ?_); simp only [go_sem, Tryz.ntmps140]
 repeat' (first | (with_reducible (show runOps ..); first | (refine Qr rfl ?_; try intro K' hK; try simp only [go_sem, *])) | (with_reducible (show Hold ..); first | refine Qh rfl ?_ | refine s_draw rfl Tryz.mixed (by kernel_rfl) ?_ | (refine s_cond rfl ⟨_, rfl, fun hb => ?_, fun hb => ?_⟩ <;> (have hc := hb; try simp only [go_sem] at hc)) | refine s_ret rfl ?_) | ((with_reducible refine Qb ?_ ?_); focus kernel_rfl) | ((with_reducible refine And.intro ?_ ?_); focus omega) | (refine contA_of hK ?_; clear hK K'; simp only [go_sem, *]) | (simp only [thenA, inBlockA, go_sem, *]))
 ·(refine ⟨[_], [], [], ⟨rfl, trivial⟩, ?_⟩; simp only [go_sem, *])
  simp [len_no (a := a) (b := b) (by assumption)]
 ·have hlb : a.length = b.length := by assumption
  refine s_loop rfl (fun zn zN zenv zAs => ∃ (i : Nat), zn = (b.length) - i ∧ i ≤ (b.length) ∧ (a.take i = b.take i) ∧ zN = 26 ∧ zenv = [(13, iV i), (12, iV b.length), (0, .list (a.map House.enc)), (1, .list (b.map House.enc))] ∧ zAs = []) (b.length) ⟨[], [], _, _, _, (by (simp only [Weak, go_sem, List.map_append, List.map_set, *] <;> (try simp (disch := omega) only [wrap_succ]) <;> (try simp) <;> (try omega))), 0, (by simp), (by simp), (by simp), rfl, rfl, rfl⟩ ?_; rintro _ _ _ _ ⟨i, rfl, hi, hP, rfl, rfl, rfl⟩
  repeat' (first | (with_reducible (show runOps ..); first | (refine Qr rfl ?_; try intro K' hK; try simp only [go_sem, *])) | (with_reducible (show Hold ..); first | refine Qh rfl ?_ | refine s_draw rfl Tryz.mixed (by kernel_rfl) ?_ | (refine s_cond rfl ⟨_, rfl, fun hb => ?_, fun hb => ?_⟩ <;> (have hc := hb; try simp only [go_sem] at hc)) | refine s_ret rfl ?_) | ((with_reducible refine Qb ?_ ?_); focus kernel_rfl) | ((with_reducible refine And.intro ?_ ?_); focus omega) | (refine contA_of hK ?_; clear hK K'; simp only [go_sem, *]) | (simp only [thenA, inBlockA, go_sem, *]))
  ·(refine ⟨[_], [], [], ⟨rfl, trivial⟩, ?_⟩; simp only [go_sem, *])
   simp [tk_no (a := a) (b := b) (i := i) (by assumption)]
  ·refine ⟨_, (by omega), [], [], _, _, _, (by (simp only [Weak, go_sem, List.map_append, List.map_set, *] <;> (try simp (disch := omega) only [wrap_succ]) <;> (try simp) <;> (try omega))), i + 1, rfl, (by omega), (by exact tk_next (by omega) (by omega) hP (by assumption)), rfl, rfl, rfl⟩
  ·(refine ⟨[_], [], [], ⟨rfl, trivial⟩, ?_⟩; simp only [go_sem, *])
   simp [tk_end (by omega) hlb hP]
theorem maxI_nat (m c : Nat) : maxI (m : Int) (c : Int) = ((max m c : Nat) : Int) := by unfold maxI; split <;> omega
theorem foldl_drop {α : Type} [Inhabited α] {l : List α} {f : Nat → α → Nat} {i m : Nat} (hi : i < l.length) : (l.drop i).foldl f m = (l.drop (i + 1)).foldl f (f m (l.getD i default)) := by
 rw [drop_cons hi, List.foldl_cons]
theorem countP_drop {α : Type} [Inhabited α] {l : List α} {f : α → Bool} {i : Nat} (hi : i < l.length) : (l.drop i).countP f = (if f (l.getD i default) = true then 1 else 0) + (l.drop (i + 1)).countP f := by
 rw [drop_cons hi, List.countP_cons]; omega
theorem sameNow_le (l : List Truth) (h : House) (x : Truth) : sameNow l h x ≤ l.length := List.countP_le_length
theorem groupOf_le (l : List Truth) (h : House) : groupOf l h ≤ l.length := by
 unfold groupOf
 have key : ∀ (r : List Truth) (m : Nat), m ≤ l.length → r.foldl (fun m x => max m (sameNow l h x)) m ≤ l.length := fun r => by
  induction r with
  | nil => intro m hm; exact hm
  | cons x r ih =>
   intro m hm
   have h1 := sameNow_le l h x
   have h2 : max m (sameNow l h x) ≤ l.length := by omega
   exact ih _ h2
 exact key l 0 (by omega)
theorem sp_group (p : Plan) (l : List Truth) (h : House) (v : Valid p) (hh : h ∈ housesOf p) (hl : l.length ≤ 1000) (hnl : ∀ t, t ∈ l → (t.now h).length ≤ 1000) :
  Spec Tryz.prog 101 [.list (l.map (Truth.enc p)), h.enc] [] (iV (groupOf l h)) [] := by
 have hw := v.wf
 have hwf := hw _ hh
 have hG0 : (l.drop 0).foldl (fun m x => max m (sameNow l h x)) 0 = groupOf l h := rfl
 have hGl := groupOf_le l h
 generalize groupOf l h = G at *
 refine spec_body Tryz.func101 rfl (fun E hE => ?_); simp only [go_sem, Tryz.ntmps101]
 repeat' (first | (with_reducible (show runOps ..); first | (refine Qr rfl ?_; try intro K' hK; try simp only [go_sem, *])) | (with_reducible (show Hold ..); first | refine Qh rfl ?_ | refine s_draw rfl Tryz.mixed (by kernel_rfl) ?_ | (refine s_cond rfl ⟨_, rfl, fun hb => ?_, fun hb => ?_⟩ <;> (have hc := hb; try simp only [go_sem] at hc)) | refine s_ret rfl ?_) | ((with_reducible refine Qb ?_ ?_); focus kernel_rfl) | ((with_reducible refine And.intro ?_ ?_); focus omega) | (refine contA_of hK ?_; clear hK K'; simp only [go_sem, *]) | (simp only [thenA, inBlockA, go_sem, *]))
 refine s_loop rfl (fun zn zN zenv zAs => ∃ (i : Nat) (m : Nat), zn = (l.length) - i ∧ i ≤ (l.length) ∧ ((l.drop i).foldl (fun m x => max m (sameNow l h x)) m = G) ∧ zN = 40 ∧ zenv = [(13, iV i), (12, iV l.length), (11, .list (l.map (Truth.enc p))), (0, .list (l.map (Truth.enc p))), (5, iV m), (3, .ptr 0 0)] ∧ zAs = [.box [iV h.street, iV h.plate.number, iV h.plate.letter]]) (l.length) ⟨[some 0], [], _, _, _, (by (simp only [Weak, go_sem, List.map_append, List.map_set, *] <;> (try simp (disch := omega) only [wrap_succ]) <;> (try simp) <;> (try omega))), 0, 0, (by simp), (by simp), (by exact hG0), rfl, rfl, rfl⟩ ?_; rintro _ _ _ _ ⟨i, m, rfl, hi, hP, rfl, rfl, rfl⟩
 by_cases hi2 : i < l.length
 ·rw [foldl_drop hi2] at hP
  have hxl := hnl _ (getD_mem hi2)
  repeat' (first | (with_reducible (show runOps ..); first | (refine Qr rfl ?_; try intro K' hK; try simp only [go_sem, *])) | (with_reducible (show Hold ..); first | refine Qh rfl ?_ | refine s_draw rfl Tryz.mixed (by kernel_rfl) ?_ | (refine s_cond rfl ⟨_, rfl, fun hb => ?_, fun hb => ?_⟩ <;> (have hc := hb; try simp only [go_sem] at hc)) | refine s_ret rfl ?_) | ((with_reducible refine Qb ?_ ?_); focus kernel_rfl) | ((with_reducible refine And.intro ?_ ?_); focus omega) | (refine contA_of hK ?_; clear hK K'; simp only [go_sem, *]) | (simp only [thenA, inBlockA, go_sem, *]))
  generalize hx : l.getD i default = x at *
  refine s_loop rfl (fun zn zN zenv zAs => ∃ (j : Nat) (n : Nat), zn = (l.length) - j ∧ j ≤ (l.length) ∧ (n + (l.drop j).countP (fun y => decide (x.now h = y.now h)) = sameNow l h x) ∧ zN = 40 ∧ zenv = [(19, iV j), (18, iV l.length), (17, .list (l.map (Truth.enc p))), (8, iV n), (7, .ptr 1 0), (13, iV i), (12, iV l.length), (11, .list (l.map (Truth.enc p))), (0, .list (l.map (Truth.enc p))), (5, iV m), (3, .ptr 0 0)] ∧ zAs = [.box [iV h.street, iV h.plate.number, iV h.plate.letter], .box [.list (x.ways.map iV), .list (x.fin.map encStreet), .fmap (keysP p) (movesP p x.now)]]) (l.length) ⟨[some 0, some 1], [], _, _, _, (by (simp only [Weak, go_sem, List.map_append, List.map_set, *] <;> (try simp (disch := omega) only [wrap_succ]) <;> (try simp) <;> (try omega))), 0, 0, (by simp), (by simp), (by simp [sameNow]), rfl, rfl, rfl⟩ ?_; rintro _ _ _ _ ⟨j, n, rfl, hj, hQ, rfl, rfl, rfl⟩
  by_cases hj2 : j < l.length
  ·rw [countP_drop hj2] at hQ
   have hyl := hnl _ (getD_mem hj2)
   have hsl := sameNow_le l h x
   generalize hy : l.getD j default = y at *
   have sc := sp_Equal_place (x.now h) (y.now h) (by omega)
   by_cases q : x.now h = y.now h
   ·have q' : decide (x.now h = y.now h) = true := by simpa using q
    rw [q'] at sc hQ
    clear q q'
    repeat' (first | (with_reducible (show runOps ..); first | (refine Qr rfl ?_; try intro K' hK; try simp only [go_sem, *])) | (with_reducible (show Hold ..); first | refine Qh rfl ?_ | refine s_draw rfl Tryz.mixed (by kernel_rfl) ?_ | (refine s_cond rfl ⟨_, rfl, fun hb => ?_, fun hb => ?_⟩ <;> (have hc := hb; try simp only [go_sem] at hc)) | refine s_ret rfl ?_) | ((with_reducible refine Qb ?_ ?_); focus kernel_rfl) | ((with_reducible refine And.intro ?_ ?_); focus omega) | (refine contA_of hK ?_; clear hK K'; simp only [go_sem, *]) | (simp only [thenA, inBlockA, go_sem, *]))
    refine look_fhouse (h := h) (hs := housesOf p) (F := MapV x.now) hw hwf ?_
    rw [if_pos hh, MapV]
    repeat' (first | (with_reducible (show runOps ..); first | (refine Qr rfl ?_; try intro K' hK; try simp only [go_sem, *])) | (with_reducible (show Hold ..); first | refine Qh rfl ?_ | refine s_draw rfl Tryz.mixed (by kernel_rfl) ?_ | (refine s_cond rfl ⟨_, rfl, fun hb => ?_, fun hb => ?_⟩ <;> (have hc := hb; try simp only [go_sem] at hc)) | refine s_ret rfl ?_) | ((with_reducible refine Qb ?_ ?_); focus kernel_rfl) | ((with_reducible refine And.intro ?_ ?_); focus omega) | (refine contA_of hK ?_; clear hK K'; simp only [go_sem, *]) | (simp only [thenA, inBlockA, go_sem, *]))
    refine look_fhouse (h := h) (hs := housesOf p) (F := MapV y.now) hw hwf ?_
    rw [if_pos hh, MapV]
    repeat' (first | (with_reducible (show runOps ..); first | (refine Qr rfl ?_; try intro K' hK; try simp only [go_sem, *])) | (with_reducible (show Hold ..); first | refine Qh rfl ?_ | refine s_draw rfl Tryz.mixed (by kernel_rfl) ?_ | (refine s_cond rfl ⟨_, rfl, fun hb => ?_, fun hb => ?_⟩ <;> (have hc := hb; try simp only [go_sem] at hc)) | refine s_ret rfl ?_) | (with_reducible (show callA ..); first | (refine call_s (sc) ?_ ?_; (focus (simp only [go_sem, *]; done)); simp only [go_sem, *])) | ((with_reducible refine Qb ?_ ?_); focus kernel_rfl) | ((with_reducible refine And.intro ?_ ?_); focus omega) | (refine contA_of hK ?_; clear hK K'; simp only [go_sem, *]) | (simp only [thenA, inBlockA, go_sem, *]))
    all_goals first | contradiction | skip
    refine ⟨_, (by omega), [some 0, some 1], [], _, _, _, (by (simp only [Weak, go_sem, List.map_append, List.map_set, *] <;> (try simp (disch := omega) only [wrap_succ]) <;> (try simp) <;> (try omega))), j + 1, n + 1, rfl, (by omega), (by rw [← hQ]; simp; omega), rfl, rfl, rfl⟩
   ·have q' : decide (x.now h = y.now h) = false := by simpa using q
    rw [q'] at sc hQ
    clear q q'
    repeat' (first | (with_reducible (show runOps ..); first | (refine Qr rfl ?_; try intro K' hK; try simp only [go_sem, *])) | (with_reducible (show Hold ..); first | refine Qh rfl ?_ | refine s_draw rfl Tryz.mixed (by kernel_rfl) ?_ | (refine s_cond rfl ⟨_, rfl, fun hb => ?_, fun hb => ?_⟩ <;> (have hc := hb; try simp only [go_sem] at hc)) | refine s_ret rfl ?_) | ((with_reducible refine Qb ?_ ?_); focus kernel_rfl) | ((with_reducible refine And.intro ?_ ?_); focus omega) | (refine contA_of hK ?_; clear hK K'; simp only [go_sem, *]) | (simp only [thenA, inBlockA, go_sem, *]))
    refine look_fhouse (h := h) (hs := housesOf p) (F := MapV x.now) hw hwf ?_
    rw [if_pos hh, MapV]
    repeat' (first | (with_reducible (show runOps ..); first | (refine Qr rfl ?_; try intro K' hK; try simp only [go_sem, *])) | (with_reducible (show Hold ..); first | refine Qh rfl ?_ | refine s_draw rfl Tryz.mixed (by kernel_rfl) ?_ | (refine s_cond rfl ⟨_, rfl, fun hb => ?_, fun hb => ?_⟩ <;> (have hc := hb; try simp only [go_sem] at hc)) | refine s_ret rfl ?_) | ((with_reducible refine Qb ?_ ?_); focus kernel_rfl) | ((with_reducible refine And.intro ?_ ?_); focus omega) | (refine contA_of hK ?_; clear hK K'; simp only [go_sem, *]) | (simp only [thenA, inBlockA, go_sem, *]))
    refine look_fhouse (h := h) (hs := housesOf p) (F := MapV y.now) hw hwf ?_
    rw [if_pos hh, MapV]
    repeat' (first | (with_reducible (show runOps ..); first | (refine Qr rfl ?_; try intro K' hK; try simp only [go_sem, *])) | (with_reducible (show Hold ..); first | refine Qh rfl ?_ | refine s_draw rfl Tryz.mixed (by kernel_rfl) ?_ | (refine s_cond rfl ⟨_, rfl, fun hb => ?_, fun hb => ?_⟩ <;> (have hc := hb; try simp only [go_sem] at hc)) | refine s_ret rfl ?_) | (with_reducible (show callA ..); first | (refine call_s (sc) ?_ ?_; (focus (simp only [go_sem, *]; done)); simp only [go_sem, *])) | ((with_reducible refine Qb ?_ ?_); focus kernel_rfl) | ((with_reducible refine And.intro ?_ ?_); focus omega) | (refine contA_of hK ?_; clear hK K'; simp only [go_sem, *]) | (simp only [thenA, inBlockA, go_sem, *]))
    all_goals first | contradiction | skip
    refine ⟨_, (by omega), [some 0, some 1], [], _, _, _, (by (simp only [Weak, go_sem, List.map_append, List.map_set, *] <;> (try simp (disch := omega) only [wrap_succ]) <;> (try simp) <;> (try omega))), j + 1, n, rfl, (by omega), (by rw [← hQ]; simp), rfl, rfl, rfl⟩
  ·rw [drop_end (by omega)] at hQ
   have hn : n = sameNow l h x := by simpa using hQ
   subst hn
   have hmx := maxI_nat m (sameNow l h x)
   repeat' (first | (with_reducible (show runOps ..); first | (refine Qr rfl ?_; try intro K' hK; try simp only [go_sem, *])) | (with_reducible (show Hold ..); first | refine Qh rfl ?_ | refine s_draw rfl Tryz.mixed (by kernel_rfl) ?_ | (refine s_cond rfl ⟨_, rfl, fun hb => ?_, fun hb => ?_⟩ <;> (have hc := hb; try simp only [go_sem] at hc)) | refine s_ret rfl ?_) | ((with_reducible refine Qb ?_ ?_); focus kernel_rfl) | ((with_reducible refine And.intro ?_ ?_); focus omega) | (refine contA_of hK ?_; clear hK K'; simp only [go_sem, *]) | (simp only [thenA, inBlockA, go_sem, *]))
   refine ⟨_, (by omega), [some 0], [], _, _, _, (by (simp only [Weak, go_sem, List.map_append, List.map_set, *] <;> (try simp (disch := omega) only [wrap_succ]) <;> (try simp) <;> (try omega))), i + 1, max m (sameNow l h x), rfl, (by omega), (by exact hP), rfl, rfl, rfl⟩
 ·rw [drop_end (by omega)] at hP
  have hP2 : m = G := hP
  subst hP2
  repeat' (first | (with_reducible (show runOps ..); first | (refine Qr rfl ?_; try intro K' hK; try simp only [go_sem, *])) | (with_reducible (show Hold ..); first | refine Qh rfl ?_ | refine s_draw rfl Tryz.mixed (by kernel_rfl) ?_ | (refine s_cond rfl ⟨_, rfl, fun hb => ?_, fun hb => ?_⟩ <;> (have hc := hb; try simp only [go_sem] at hc)) | refine s_ret rfl ?_) | ((with_reducible refine Qb ?_ ?_); focus kernel_rfl) | ((with_reducible refine And.intro ?_ ?_); focus omega) | (refine contA_of hK ?_; clear hK K'; simp only [go_sem, *]) | (simp only [thenA, inBlockA, go_sem, *]))
  (refine ⟨[_], [], [], ⟨rfl, trivial⟩, ?_⟩; simp only [go_sem, *])
theorem sp_Ask1 (a b : Int) : Spec Tryz.prog 103 [iV a, iV b] [] (iV (IntKind.i64.wrap (a - b))) [] := by
 refine spec_body Tryz.func103 rfl (fun E hE => ?_); simp only [go_sem, Tryz.ntmps103]
 repeat' (first | (with_reducible (show runOps ..); first | (refine Qr rfl ?_; try intro K' hK; try simp only [go_sem, *])) | (with_reducible (show Hold ..); first | refine Qh rfl ?_ | (refine s_cond rfl ⟨_, rfl, fun hb => ?_, fun hb => ?_⟩ <;> (have hc := hb; try simp only [go_sem] at hc)) | refine s_ret rfl ?_) | ((with_reducible refine Qb ?_ ?_); focus kernel_rfl) | ((with_reducible refine And.intro ?_ ?_); focus omega) | (refine contA_of hK ?_; clear hK K'; simp only [go_sem, *]) | (simp only [thenA, inBlockA, go_sem, *]))
 (refine ⟨[_], [], [], ⟨rfl, trivial⟩, ?_⟩; simp only [go_sem, *])
theorem leastGo_drop {g : List Nat} {i : Nat} {a : Int} (hi : i < g.length) : leastGo g (g.drop i) i a = leastGo g (g.drop (i + 1)) (i + 1) (if a < 0 ∨ g.getD i default < g.getD a.toNat 0 then i else a) := by
 rw [drop_cons hi, leastGo]
theorem leastGo_range (g : List Nat) : ∀ (r : List Nat) (i : Nat) (a : Int), r.length + i = g.length → -1 ≤ a ∧ a < g.length → -1 ≤ leastGo g r i a ∧ leastGo g r i a < g.length
 | [], _, a, _, h => h
 | x :: r, i, a, hl, h => by
  rw [leastGo]
  refine leastGo_range g r (i + 1) _ (by simp at hl; omega) ?_
  split
  ·simp at hl; omega
  ·exact h
theorem leastOf_range {g : List Nat} (h : 0 < g.length) : -1 ≤ leastOf g ∧ leastOf g < g.length := leastGo_range g g 0 (-1) (by omega) (by omega)
theorem sp_least (g : List Nat) (hl : g.length ≤ 1000) (hs : ∀ x, x ∈ g → x ≤ 1000) :
  Spec Tryz.prog 102 [.list (g.map fun n => iV (n : Nat)), fnV 103] [] (iV (leastOf g)) [] := by
 have hca : callable Tryz.prog 103 = true := by kernel_rfl
 have hG0 : leastGo g (g.drop 0) 0 (-1) = leastOf g := rfl
 generalize leastOf g = G at *
 refine spec_body Tryz.func102 rfl (fun E hE => ?_); simp only [go_sem, Tryz.ntmps102]
 repeat' (first | (with_reducible (show runOps ..); first | (refine Qr rfl ?_; try intro K' hK; try simp only [go_sem, *]) | (refine Qi rfl rfl rfl rfl (fun hb K' hK => ?_) (fun hb => ?_) <;> (have hc := hb; try simp only [go_sem] at hc; simp only [go_sem, *]))) | (with_reducible (show Hold ..); first | refine Qh rfl ?_ | (refine s_cond rfl ⟨_, rfl, fun hb => ?_, fun hb => ?_⟩ <;> (have hc := hb; try simp only [go_sem] at hc)) | refine s_ret rfl ?_) | ((with_reducible refine Qb ?_ ?_); focus kernel_rfl) | ((with_reducible refine And.intro ?_ ?_); focus omega) | (refine contA_of hK ?_; clear hK K'; simp only [go_sem, *]) | (simp only [thenA, inBlockA, go_sem, *]))
 refine s_loop rfl (fun zn zN zenv zAs => ∃ (i : Nat) (a : Int), zn = (g.length) - i ∧ i ≤ (g.length) ∧ (leastGo g (g.drop i) i a = G ∧ -1 ≤ a ∧ a < i) ∧ zN = 30 ∧ zenv = [(10, iV i), (9, iV g.length), (8, .list (g.map fun n => iV (n : Nat))), (0, .list (g.map fun n => iV (n : Nat))), (1, fnV 103), (5, iV a)] ∧ zAs = []) (g.length) ⟨[], [], _, _, _, (by (simp only [Weak, go_sem, List.map_append, List.map_set, *] <;> (try simp (disch := omega) only [wrap_succ]) <;> (try simp) <;> (try omega))), 0, -1, (by simp), (by simp), (by exact ⟨hG0, by omega, by omega⟩), rfl, rfl, rfl⟩ ?_; rintro _ _ _ _ ⟨i, a, rfl, hi, hP, rfl, rfl, rfl⟩
 obtain ⟨hP, ha1, ha2⟩ := hP
 by_cases hi2 : i < g.length
 ·rw [leastGo_drop hi2] at hP
  have hx := hs _ (getD_mem hi2)
  by_cases ha : a < 0
  ·have hd : decide (a < 0) = true := by simpa using ha
   rw [if_pos (.inl ha)] at hP
   repeat' (first | (with_reducible (show runOps ..); first | (refine Qr rfl ?_; try intro K' hK; try simp only [go_sem, *]) | (refine Qi rfl rfl rfl rfl (fun hb K' hK => ?_) (fun hb => ?_) <;> (have hc := hb; try simp only [go_sem] at hc; simp only [go_sem, *]))) | (with_reducible (show Hold ..); first | refine Qh rfl ?_ | (refine s_cond rfl ⟨_, rfl, fun hb => ?_, fun hb => ?_⟩ <;> (have hc := hb; try simp only [go_sem] at hc)) | refine s_ret rfl ?_) | ((with_reducible refine Qb ?_ ?_); focus kernel_rfl) | ((with_reducible refine And.intro ?_ ?_); focus omega) | (refine contA_of hK ?_; clear hK K'; simp only [go_sem, *]) | (simp only [thenA, inBlockA, go_sem, *]))
   all_goals first | contradiction | skip
   refine ⟨_, (by omega), [], [], _, _, _, (by (simp only [Weak, go_sem, List.map_append, List.map_set, *] <;> (try simp (disch := omega) only [wrap_succ]) <;> (try simp) <;> (try omega))), i + 1, (i : Int), rfl, (by omega), (by exact ⟨hP, by omega, by omega⟩), rfl, rfl, rfl⟩
  ·obtain ⟨k, rfl⟩ : ∃ k : Nat, a = (k : Int) := ⟨a.toNat, by omega⟩
   have hk : k < g.length := by omega
   have hy := hs _ (getD_mem hk)
   have hd : decide ((k : Int) < 0) = false := by simp
   have hkl : ((k : Int) < (g.length : Int)) := by omega
   have e0 : g.getD (k : Int).toNat 0 = g.getD k default := rfl
   rw [e0] at hP
   clear e0
   have sa := sp_Ask1 ((g.getD i default : Nat) : Int) ((g.getD k default : Nat) : Int)
   rw [wrap_i64 (by omega) (by omega)] at sa
   by_cases hc0 : g.getD i default < g.getD k default
   ·rw [if_pos (.inr hc0)] at hP
    have hd2 : ((g.getD i default : Nat) : Int) - ((g.getD k default : Nat) : Int) < 0 := by omega
    repeat' (first | (with_reducible (show runOps ..); first | (refine Qr rfl ?_; try intro K' hK; try simp only [go_sem, *]) | (refine Qi rfl rfl rfl rfl (fun hb K' hK => ?_) (fun hb => ?_) <;> (have hc := hb; try simp only [go_sem] at hc; simp only [go_sem, *]))) | (with_reducible (show Hold ..); first | refine Qh rfl ?_ | (refine s_cond rfl ⟨_, rfl, fun hb => ?_, fun hb => ?_⟩ <;> (have hc := hb; try simp only [go_sem] at hc)) | refine s_ret rfl ?_) | (with_reducible (show callA ..); first | (refine call_s (sa) ?_ ?_; (focus (simp only [go_sem, *]; done)); simp only [go_sem, *])) | ((with_reducible refine Qb ?_ ?_); focus kernel_rfl) | ((with_reducible refine And.intro ?_ ?_); focus omega) | (refine contA_of hK ?_; clear hK K'; simp only [go_sem, *]) | (simp only [thenA, inBlockA, go_sem, *]))
    all_goals first | contradiction | skip
    all_goals first | omega | skip
    refine ⟨_, (by omega), [], [], _, _, _, (by (simp only [Weak, go_sem, List.map_append, List.map_set, *] <;> (try simp (disch := omega) only [wrap_succ]) <;> (try simp) <;> (try omega))), i + 1, (i : Int), rfl, (by omega), (by exact ⟨hP, by omega, by omega⟩), rfl, rfl, rfl⟩
   ·rw [if_neg (by omega)] at hP
    have hd2 : ¬ ((g.getD i default : Nat) : Int) - ((g.getD k default : Nat) : Int) < 0 := by omega
    repeat' (first | (with_reducible (show runOps ..); first | (refine Qr rfl ?_; try intro K' hK; try simp only [go_sem, *]) | (refine Qi rfl rfl rfl rfl (fun hb K' hK => ?_) (fun hb => ?_) <;> (have hc := hb; try simp only [go_sem] at hc; simp only [go_sem, *]))) | (with_reducible (show Hold ..); first | refine Qh rfl ?_ | (refine s_cond rfl ⟨_, rfl, fun hb => ?_, fun hb => ?_⟩ <;> (have hc := hb; try simp only [go_sem] at hc)) | refine s_ret rfl ?_) | (with_reducible (show callA ..); first | (refine call_s (sa) ?_ ?_; (focus (simp only [go_sem, *]; done)); simp only [go_sem, *])) | ((with_reducible refine Qb ?_ ?_); focus kernel_rfl) | ((with_reducible refine And.intro ?_ ?_); focus omega) | (refine contA_of hK ?_; clear hK K'; simp only [go_sem, *]) | (simp only [thenA, inBlockA, go_sem, *]))
    all_goals first | contradiction | skip
    all_goals first | omega | skip
    refine ⟨_, (by omega), [], [], _, _, _, (by (simp only [Weak, go_sem, List.map_append, List.map_set, *] <;> (try simp (disch := omega) only [wrap_succ]) <;> (try simp) <;> (try omega))), i + 1, (k : Int), rfl, (by omega), (by exact ⟨hP, by omega, by omega⟩), rfl, rfl, rfl⟩
 ·rw [drop_end (by omega)] at hP
  have hP2 : a = G := hP
  subst hP2
  repeat' (first | (with_reducible (show runOps ..); first | (refine Qr rfl ?_; try intro K' hK; try simp only [go_sem, *]) | (refine Qi rfl rfl rfl rfl (fun hb K' hK => ?_) (fun hb => ?_) <;> (have hc := hb; try simp only [go_sem] at hc; simp only [go_sem, *]))) | (with_reducible (show Hold ..); first | refine Qh rfl ?_ | (refine s_cond rfl ⟨_, rfl, fun hb => ?_, fun hb => ?_⟩ <;> (have hc := hb; try simp only [go_sem] at hc)) | refine s_ret rfl ?_) | ((with_reducible refine Qb ?_ ?_); focus kernel_rfl) | ((with_reducible refine And.intro ?_ ?_); focus omega) | (refine contA_of hK ?_; clear hK K'; simp only [go_sem, *]) | (simp only [thenA, inBlockA, go_sem, *]))
  (refine ⟨[_], [], [], ⟨rfl, trivial⟩, ?_⟩; simp only [go_sem, *])
end Go.Abs

namespace Go.Abs
open Go Go.Proofs
set_option maxRecDepth 10000
section
variable {P : Program} {E : Env} {Q : Exit → AS → Prop} {σ : AS} {p : List Nat} {b c : Code} {l : Nat}
def rangeA0 : Code → Code
 | .rangeFunc _ _ a _ => a
 | _ => .skip
def rangeB0 : Code → Code
 | .rangeFunc _ _ _ b => b
 | _ => .skip
def isRange : Code → Option (Operand × Array Tmp)
 | .rangeFunc g ps _ _ => some (g, ps)
 | _ => none
theorem r_region {id : Nat} {ops : List Oper} (h : c = .region id ops.toArray false) (hx : runOps P ops (fun σ' _ => Q .normal σ') ops σ []) : HoldR l P E c Q σ := by rw [h]; exact holdR_region hx
theorem r_block {id : Nat} (h : isBlock c = some id) (hx : HoldR l P E (child 0 c) (inBlockA id Q) σ) : HoldR l P E c Q σ := by
 cases c with
 | block i c => cases h; exact holdR_block hx
 | _ => cases h
theorem s_range {g : Operand} {ps : Array Tmp} (h : isRange (sub p b) = some (g, ps)) {f : FuncId} {caps : List AV} (hg : σ.ev g = .fn f caps) (hc : callable P f = true) {nx : Nat} (hnx : σ.obj nx = .unb)
  (hx : ∀ fn, ∃ nx', callA P f (.yld nx :: caps) (σ.setO nx (.loopo ⟨fn, ps, rangeA0 (sub p b), rangeB0 (sub p b), σ.n⟩ σ.env (some none))).obj nx' (fun _ _ wr => rangeK P E Q nx ((σ.setO nx (.loopo ⟨fn, ps, rangeA0 (sub p b), rangeB0 (sub p b), σ.n⟩ σ.env (some none))).writes wr))) : Hold P E (sub p b) Q σ := by
 cases hq : sub p b with
 | rangeFunc g' ps' a b' =>
  rw [hq] at h hx; cases h
  exact hold_range hg hc hnx hx
 | _ => rw [hq] at h; cases h
theorem s_yield {id : Nat} {ops : List Oper} (k : Nat) (h : sub p b = .region id ops.toArray false) {o : Oper} (hk : ops[k]? = some o) {fo : Operand} {args : Array Operand} {ts : Array TypeId} (hop : o.op = .call ⟨.value fo, args, ts⟩)
  (hx : runOps P ops (fun σ1 _ => guardA ops σ1 o
   ((match o.dst with | some d => ltN d σ1.n | none => True) ∧ yieldA P (σ1.ev fo) (args.toList.map σ1.ev) σ1.obj σ1.nx (fun v _ wr => runOps P ops (fun σ' _ => Q .normal σ') (ops.drop (k + 1)) ((σ1.writes wr).putD o.dst v) []))
   ((match o.dst with | some d => ltN d σ1.n | none => True) ∧ runOps P ops (fun σ' _ => Q .normal σ') (ops.drop (k + 1)) (σ1.putD o.dst (.tup [])) [])) (ops.take k) σ []) : Hold P E (sub p b) Q σ := by
 obtain ⟨hlt, he⟩ := List.getElem?_eq_some_iff.1 hk
 have e : ops = ops.take k ++ o :: ops.drop (k + 1) := by
  rw [← he, ← List.drop_eq_getElem_cons hlt, List.take_append_drop]
 obtain ⟨pre, hpre⟩ : ∃ pre, pre = ops.take k := ⟨_, rfl⟩
 obtain ⟨post, hpost⟩ : ∃ post, post = ops.drop (k + 1) := ⟨_, rfl⟩
 rw [← hpre, ← hpost] at e hx
 rw [h]
 clear h hk he hlt hpre hpost
 subst e
 exact hold_yield hop hx
end
theorem guard_yes {all : List Oper} {σ : AS} {o : Oper} {j d : Nat} {want : Bool} {Y N : Prop} (hg : o.guard = some (j, want)) (hj : (all[j]?).bind (·.dst) = some d) (hv : σ.get d = .raw (.bool want)) (h : Y) : guardA all σ o Y N := by
 unfold guardA
 rw [hg]
 simp only [hj, hv]
 show gIf want want Y N
 unfold gIf
 exact ⟨fun _ => h, fun e => by cases want <;> cases e⟩
theorem yield_of {P : Program} {y : AV} {avs : List AV} {H : Nat → AObj} {nx : Nat} {K : Cont} {oid : Nat} (ids ex : List Nat) {args : List AV} {fp : List AObj} {r : AV} {out : List AObj} (sp : YSpec P args fp r out)
  (hy : y = .yld oid) (hh : ids.head? = some oid) (h1 : ids.Nodup) (h2 : XpL H (ids.map some) ex args avs) (h3 : fpsF H (ids.map some) ex fp ids) (h4 : ∀ o, o ∈ ex → o ∉ ids) (h5 : ex = [] ∨ (Scal r ∧ ∀ A, A ∈ out → ScalO A))
  (h6 : ∀ j, j < out.length - ids.length → H (nx + j) = .unb) (h7 : ∀ A, A ∈ out → A ≠ .unb) (hk : K (r.ren (backId ids nx)) (ids ++ ex ++ newIds ids nx out) (backObjs ids nx out)) : yieldA P y avs H nx K := by
 refine ⟨oid, ids, ex, args, fp, r, out, hy, hh, ⟨sp, h1, h4, ?_, (fpsF.sound h3).1, fun k h => ?_, h5, h6, h7⟩, hk⟩
 ·rw [← rho_ids]; exact XpL.all2 h2
 ·rw [← rho_ids]; exact (fpsF.sound h3).2 k h
theorem call_fzi {P : Program} {f : FuncId} {avs as' args : List AV} {H : Nat → AObj} {nx : Nat} {K : Cont} {r : AV} {fp out : List AObj} (ids gone : List Nat) (sp : Spec P f args fp r out) (ha : (avs.map fun x => (frzV H 3 x).1) = as') (hg : (avs.map fun x => (frzV H 3 x).2).flatten = gone)
  (h1 : ids.Nodup) (h2 : XpL (fun o => if o ∈ gone then .dead else H o) (ids.map some) [] args as') (h3 : fpsF (fun o => if o ∈ gone then .dead else H o) (ids.map some) [] fp ids)
  (h6 : ∀ j, j < out.length - ids.length → (if nx + j ∈ gone then AObj.dead else H (nx + j)) = .unb) (h7 : ∀ A, A ∈ out → A ≠ .unb)
  (hk : K (r.ren (backId ids nx)) (gone ++ (ids ++ newIds ids nx out)) (deads gone ++ backObjs ids nx out)) : callA P f avs H nx K := by
 refine call_frz ?_
 rw [ha, hg]
 exact callB_of ids [] sp h1 h2 h3 (by simp) (.inl rfl) h6 h7 (by simpa using hk)
theorem XpL_app {H : Nat → AObj} {m : List (Option Nat)} {ex : List Nat} {x y : AV} : ∀ (xs : List AV), (∀ z, z ∈ xs → XpF H m ex z z) → (XpL H m ex (xs ++ [x]) (xs ++ [y]) ↔ XpF H m ex x y)
 | [], _ => by simp only [List.nil_append, XpL_cons, XpL_nil, and_true]
 | z :: r, h => by
  simp only [List.cons_append, XpL_cons]
  rw [XpL_app r (fun z hz => h z (by simp [hz]))]
  exact ⟨fun h => h.2, fun h2 => ⟨h z (by simp), h2⟩⟩
@[go_sem] theorem XpL_snoc_streets (H : Nat → AObj) (m : List (Option Nat)) (ex : List Nat) (x y : AV) (p : Plan) : XpL H m ex (List.map encStreet p ++ [x]) (List.map encStreet p ++ [y]) ↔ XpF H m ex x y :=
 XpL_app _ (fun z hz => by
  obtain ⟨l, _, rfl⟩ := List.mem_map.1 hz
  simp only [XpF])
@[go_sem] theorem XpL_take_streets (H : Nat → AObj) (m : List (Option Nat)) (ex : List Nat) (x y : AV) (i : Nat) (p : Plan) : XpL H m ex (List.take i (List.map encStreet p) ++ [x]) (List.take i (List.map encStreet p) ++ [y]) ↔ XpF H m ex x y :=
 XpL_app _ (fun z hz => by
  obtain ⟨l, _, rfl⟩ := List.mem_map.1 (List.mem_of_mem_take hz)
  simp only [XpF])
theorem sp_copied (p : Plan) (v : Valid p) : Spec Tryz.prog 112 [encPlan p] [] (encPlan p) [] := by
 have hp3 := v.len
 refine spec_body Tryz.func112 rfl (fun E hE => ?_); simp only [go_sem, Tryz.ntmps112]
 repeat' (first | (with_reducible (show runOps ..); first | (refine Qr rfl ?_; try intro K' hK; try simp only [go_sem, *])) | (with_reducible (show Hold ..); first | refine Qh rfl ?_ | refine s_draw rfl Tryz.mixed (by kernel_rfl) ?_ | (refine s_cond rfl ⟨_, rfl, fun hb => ?_, fun hb => ?_⟩ <;> (have hc := hb; try simp only [go_sem] at hc)) | refine s_ret rfl ?_) | ((with_reducible refine Qb ?_ ?_); focus kernel_rfl) | ((with_reducible refine And.intro ?_ ?_); focus omega) | (refine contA_of hK ?_; clear hK K'; simp only [go_sem, *]) | (simp only [thenA, inBlockA, go_sem, *]))
 refine s_loop rfl (fun zn zN zenv zAs => ∃ (i : Nat), zn = (p.length) - i ∧ i ≤ (p.length) ∧ (NoP i) ∧ zN = 23 ∧ zenv = [(10, iV i), (9, iV p.length), (8, .list (p.map encStreet)), (2, .ptr 0 0), (3, .ptr 1 0)] ∧ zAs = [.box [nilV], .box [.own 2 1 0 i], .box ((p.take i).map encStreet)]) (p.length) ⟨[some 1, some 2, none], [], _, _, _, (by (simp only [Weak, go_sem, List.map_append, List.map_set, *] <;> (try simp (disch := omega) only [wrap_succ]) <;> (try simp) <;> (try omega))), 0, (by simp), (by simp), (by trivial), rfl, rfl, rfl⟩ ?_; rintro _ _ _ _ ⟨i, rfl, hi, hP, rfl, rfl, rfl⟩
 by_cases hi2 : i < p.length
 ·have hr := (v.rows _ (getD_mem hi2)).len
  have sc := sp_Clone_plate (p.getD i default) (by omega)
  have e := take_succ_getD (l := p) (i := i) hi2
  repeat' (first | (with_reducible (show runOps ..); first | (refine Qr rfl ?_; try intro K' hK; try simp only [go_sem, *])) | (with_reducible (show Hold ..); first | refine Qh rfl ?_ | refine s_draw rfl Tryz.mixed (by kernel_rfl) ?_ | (refine s_cond rfl ⟨_, rfl, fun hb => ?_, fun hb => ?_⟩ <;> (have hc := hb; try simp only [go_sem] at hc)) | refine s_ret rfl ?_) | (with_reducible (show callA ..); first | (refine call_n (sc) ?_ ?_ ?_ ?_; (focus (simp only [go_sem, *]; done)); (focus (first | (simp; done) | (simp [go_sem]; done))); (focus (first | (simp; done) | (simp [go_sem]; done))); simp only [go_sem, *])) | ((with_reducible refine Qb ?_ ?_); focus kernel_rfl) | ((with_reducible refine And.intro ?_ ?_); focus omega) | (refine contA_of hK ?_; clear hK K'; simp only [go_sem, *]) | (simp only [thenA, inBlockA, go_sem, *]))
  refine ⟨_, (by omega), [some 0, some 1, some 5], [3], _, _, _, (by (simp only [Weak, go_sem, List.map_append, List.map_set, *] <;> (try simp (disch := omega) only [wrap_succ]) <;> (try simp) <;> (try omega))), i + 1, rfl, (by omega), (by trivial), rfl, rfl, rfl⟩
 ·have e : p.take i = p := List.take_of_length_le (by omega)
  repeat' (first | (with_reducible (show runOps ..); first | (refine Qr rfl ?_; try intro K' hK; try simp only [go_sem, *])) | (with_reducible (show Hold ..); first | refine Qh rfl ?_ | refine s_draw rfl Tryz.mixed (by kernel_rfl) ?_ | (refine s_cond rfl ⟨_, rfl, fun hb => ?_, fun hb => ?_⟩ <;> (have hc := hb; try simp only [go_sem] at hc)) | refine s_ret rfl ?_) | ((with_reducible refine Qb ?_ ?_); focus kernel_rfl) | ((with_reducible refine And.intro ?_ ?_); focus omega) | (refine contA_of hK ?_; clear hK K'; simp only [go_sem, *]) | (simp only [thenA, inBlockA, go_sem, *]))
  refine ⟨[.agg [.own 2 1 0 i]], [], [2], ⟨by simp only [resOne, go_sem], trivial⟩, ?_⟩
  simp only [go_sem, *]
  simp
  omega
end Go.Abs

namespace Go.Abs
open Go Go.Proofs
set_option maxRecDepth 10000
noncomputable def askedAt : Code := sub [0, 1, 0, 1, 1, 1, 1] (bodyOf Tryz.f100)
noncomputable def askedK (fn : FuncId) : LoopK := ⟨fn, #[19], rangeA0 askedAt, rangeB0 askedAt, 26⟩
theorem ysp_asked (fn : FuncId) (p : Plan) (t : Truth) (acc : List Truth) (h : acc.length ≤ 1000) :
  YSpec Tryz.prog [t.enc p] [.loopo (askedK fn) [(7, .ptr 1 0)] (some none), .box [.own 2 3 0 acc.length], .row 3 (acc.map (Truth.enc p))] (bV true)
   [.loopo (askedK fn) [(7, .ptr 1 0)] (some none), .box [.own 3 3 0 (acc ++ [t]).length], .dead, .row 3 ((acc ++ [t]).map (Truth.enc p))] := by
 refine yspec_of (L := askedK fn) (env := [(7, .ptr 1 0)]) (j := none) rfl rfl (fun E l hE => ?_)
 refine r_region rfl ?_
 simp only [askedK, putEnv, go_sem]
 repeat' (first | (with_reducible (show runOps ..); first | (refine Qr (ops := _ :: _) rfl ?_; try intro K' hK; try simp only [go_sem, *]) | (refine Qi rfl rfl rfl rfl (fun hb K' hK => ?_) (fun hb => ?_) <;> (have hc := hb; try simp only [go_sem] at hc; simp only [go_sem, *]))) | ((with_reducible refine Qb ?_ ?_); focus kernel_rfl) | ((with_reducible refine And.intro ?_ ?_); focus omega) | (refine contA_of hK ?_; clear hK K'; simp only [go_sem, *]) | (simp only [thenA, inBlockA, go_sem, *]))
 refine run_nil ?_
 refine ⟨by simp only [go_sem], ?_⟩
 refine r_block (id := 1) rfl ?_
 refine r_region rfl ?_
 simp only [go_sem]
 repeat' (first | (with_reducible (show runOps ..); first | (refine Qr (ops := _ :: _) rfl ?_; try intro K' hK; try simp only [go_sem, *]) | (refine Qi rfl rfl rfl rfl (fun hb K' hK => ?_) (fun hb => ?_) <;> (have hc := hb; try simp only [go_sem] at hc; simp only [go_sem, *]))) | ((with_reducible refine Qb ?_ ?_); focus kernel_rfl) | ((with_reducible refine And.intro ?_ ?_); focus omega) | (refine contA_of hK ?_; clear hK K'; simp only [go_sem, *]) | (simp only [thenA, inBlockA, go_sem, *]))
 refine run_nil ?_
 refine ⟨by simp only [go_sem], rfl, [some 0, some 1, some 2, some 5], [], ?_⟩
 simp only [go_sem, *]
 simp [lkV, XpF]
end Go.Abs

namespace Go.Abs
open Go Go.Proofs
set_option maxRecDepth 10000
set_option maxHeartbeats 4000000
abbrev growF : AV := .fn 162 [.ptr 0 0, .ptr 1 0, .ptr 2 0]
noncomputable def growFp (fn : FuncId) (s : Story) (acc : List Truth) : List AObj :=
 [.box [.ptr 3 0], .box [.yld 4], .box [growF], taleBox s, .loopo (askedK fn) [(7, .ptr 5 0)] (some none), .box [.own 6 3 0 acc.length], .row 3 (acc.map (Truth.enc s.first))]
noncomputable def growOut (fn : FuncId) (s : Story) (acc : List Truth) : List AObj :=
 [.box [.ptr 3 0], .box [.yld 4], .box [growF], taleBox s, .loopo (askedK fn) [(7, .ptr 5 0)] (some none), .box [.own 7 3 0 acc.length], .dead, .row 3 (acc.map (Truth.enc s.first))]
attribute [go_sem] growFp growOut
theorem sp_grow0 (fn : FuncId) (s : Story) (o0 : Told s) (t : Truth) (o : TOk s 0 t) (acc : List Truth) (ha : acc.length ≤ 1000) :
  Spec Tryz.prog 162 [t.enc s.first, .ptr 0 0, .ptr 1 0, .ptr 2 0] (growFp fn s acc) (bV true) (growOut fn s (acc ++ growT s 0 t)) := by
 have hst := o.steps
 have hst2 : ((t.ways.length : Int) == (s.steps.length : Int)) = true := by simp; omega
 have hfl := o0.facts
 have hsrc : ∀ f, f ∈ s.facts → f.src ∈ housesOf s.first := fun f hf => (o0.fact f hf).1
 have hnl : ∀ h, h ∈ housesOf s.first → (t.now h).length ≤ 1000 := fun h hh => by have := o.small o0.steps hh; omega
 have sf := fun b hb => sp_fits s t o0.first (by omega) hsrc hnl b hb
 have sy := ysp_asked fn s.first t acc ha
 rw [growT_zero]
 by_cases q : fitsT s.facts t = true
 ·rw [if_pos q]
  have sf1 := sf true q
  clear sf q
  refine spec_body Tryz.func162 rfl (fun E hE => ?_); simp only [go_sem, Tryz.ntmps162]
  repeat' (first | (with_reducible (show runOps ..); first | (refine Qr rfl ?_; try intro K' hK; try simp only [go_sem, *]) | (refine Qi rfl rfl rfl rfl (fun hb K' hK => ?_) (fun hb => ?_) <;> (have hc := hb; try simp only [go_sem] at hc; simp only [go_sem, *]))) | (with_reducible (show Hold ..); first | refine Qh rfl ?_ | refine s_draw rfl Tryz.mixed (by kernel_rfl) ?_) | ((with_reducible refine Qb ?_ ?_); focus kernel_rfl) | ((with_reducible refine And.intro ?_ ?_); focus omega) | (refine contA_of hK ?_; clear hK K'; simp only [go_sem, *]) | (simp only [thenA, inBlockA, go_sem, *]))
  refine s_cond rfl ⟨true, by simp only [go_sem, *], fun _ => ?_, fun e => by cases e⟩
  refine s_seq rfl ?_
  refine s_yield 7 rfl rfl rfl ?_
  simp only [List.take_succ_cons, List.take_zero, List.drop_succ_cons, List.drop_zero]
  repeat' (first | (with_reducible (show runOps ..); first | (refine Qr (ops := _ :: _) rfl ?_; try intro K' hK; try simp only [go_sem, *]) | (refine Qi rfl rfl rfl rfl (fun hb K' hK => ?_) (fun hb => ?_) <;> (have hc := hb; try simp only [go_sem] at hc; simp only [go_sem, *]))) | ((with_reducible refine Qb ?_ ?_); focus kernel_rfl) | ((with_reducible refine And.intro ?_ ?_); focus omega) | (refine contA_of hK ?_; clear hK K'; simp only [go_sem, *]) | (simp only [thenA, inBlockA, go_sem, *]))
  refine call_of [3] [] sf1 (by simp) (by simp only [go_sem]) (by simp only [go_sem]) (by simp) (.inl rfl) (by simp [go_sem]) (by simp [go_sem]) ?_
  simp only [go_sem]
  repeat' (first | (with_reducible (show runOps ..); first | (refine Qr (ops := _ :: _) rfl ?_; try intro K' hK; try simp only [go_sem, *]) | (refine Qi rfl rfl rfl rfl (fun hb K' hK => ?_) (fun hb => ?_) <;> (have hc := hb; try simp only [go_sem] at hc; simp only [go_sem, *]))) | ((with_reducible refine Qb ?_ ?_); focus kernel_rfl) | ((with_reducible refine And.intro ?_ ?_); focus omega) | (refine contA_of hK ?_; clear hK K'; simp only [go_sem, *]) | (simp only [thenA, inBlockA, go_sem, *]))
  refine run_nil ?_
  refine guard_yes rfl rfl (by simp only [go_sem]) ?_
  refine ⟨by simp only [go_sem], ?_⟩
  simp only [go_sem]
  refine yield_of [4, 5, 6] [] sy rfl rfl (by simp) (by simp only [go_sem]) ?_ (by simp) (.inl rfl) (by simp [go_sem]) (by simp [go_sem]) ?_
  ·simp only [go_sem]
  simp only [go_sem]
  repeat' (first | (with_reducible (show runOps ..); first | (refine Qr rfl ?_; try intro K' hK; try simp only [go_sem, *]) | (refine Qi rfl rfl rfl rfl (fun hb K' hK => ?_) (fun hb => ?_) <;> (have hc := hb; try simp only [go_sem] at hc; simp only [go_sem, *]))) | (with_reducible (show Hold ..); first | refine Qh rfl ?_ | refine s_draw rfl Tryz.mixed (by kernel_rfl) ?_ | (refine s_cond rfl ⟨_, rfl, fun hb => ?_, fun hb => ?_⟩ <;> (have hc := hb; try simp only [go_sem] at hc)) | refine s_ret rfl ?_) | ((with_reducible refine Qb ?_ ?_); focus kernel_rfl) | ((with_reducible refine And.intro ?_ ?_); focus omega) | (refine contA_of hK ?_; clear hK K'; simp only [go_sem, *]) | (simp only [thenA, inBlockA, go_sem, *]))
  refine ⟨[_], [some 0, some 1, some 2, some 3, some 4, some 5, some 6, some 8], [], ⟨rfl, trivial⟩, ?_⟩
  simp only [go_sem, *]
 ·rw [if_neg q, List.append_nil]
  rw [Bool.not_eq_true] at q
  have sf1 := sf false q
  clear sf q
  refine spec_body Tryz.func162 rfl (fun E hE => ?_); simp only [go_sem, Tryz.ntmps162]
  repeat' (first | (with_reducible (show runOps ..); first | (refine Qr rfl ?_; try intro K' hK; try simp only [go_sem, *]) | (refine Qi rfl rfl rfl rfl (fun hb K' hK => ?_) (fun hb => ?_) <;> (have hc := hb; try simp only [go_sem] at hc; simp only [go_sem, *]))) | (with_reducible (show Hold ..); first | refine Qh rfl ?_ | refine s_draw rfl Tryz.mixed (by kernel_rfl) ?_ | (refine s_cond rfl ⟨_, rfl, fun hb => ?_, fun hb => ?_⟩ <;> (have hc := hb; try simp only [go_sem] at hc)) | refine s_ret rfl ?_) | ((with_reducible refine Qb ?_ ?_); focus kernel_rfl) | ((with_reducible refine And.intro ?_ ?_); focus omega) | (refine contA_of hK ?_; clear hK K'; simp only [go_sem, *]) | (simp only [thenA, inBlockA, go_sem, *]))
  all_goals first | contradiction | skip
  refine call_of [3] [] sf1 (by simp) (by simp only [go_sem]) (by simp only [go_sem]) (by simp) (.inl rfl) (by simp [go_sem]) (by simp [go_sem]) ?_
  simp only [go_sem]
  repeat' (first | (with_reducible (show runOps ..); first | (refine Qr rfl ?_; try intro K' hK; try simp only [go_sem, *]) | (refine Qi rfl rfl rfl rfl (fun hb K' hK => ?_) (fun hb => ?_) <;> (have hc := hb; try simp only [go_sem] at hc; simp only [go_sem, *]))) | (with_reducible (show Hold ..); first | refine Qh rfl ?_ | refine s_draw rfl Tryz.mixed (by kernel_rfl) ?_ | (refine s_cond rfl ⟨_, rfl, fun hb => ?_, fun hb => ?_⟩ <;> (have hc := hb; try simp only [go_sem] at hc)) | refine s_ret rfl ?_) | ((with_reducible refine Qb ?_ ?_); focus kernel_rfl) | ((with_reducible refine And.intro ?_ ?_); focus omega) | (refine contA_of hK ?_; clear hK K'; simp only [go_sem, *]) | (simp only [thenA, inBlockA, go_sem, *]))
  refine ⟨[_], [some 0, some 1, some 2, some 3, some 4, some 5, some 6, some 6], [], ⟨rfl, trivial⟩, ?_⟩
  simp only [go_sem, *]
theorem sp_grow (fn : FuncId) (s : Story) (o0 : Told s) : ∀ (n : Nat) (t : Truth), TOk s n t → ∀ acc : List Truth, acc.length + (growT s n t).length ≤ 1000 →
  Spec Tryz.prog 162 [t.enc s.first, .ptr 0 0, .ptr 1 0, .ptr 2 0] (growFp fn s acc) (bV true) (growOut fn s (acc ++ growT s n t))
 | 0, t, o, acc, ha => sp_grow0 fn s o0 t o acc (by omega)
 | n + 1, t, o, acc, ha => by
  have IH := sp_grow fn s o0 n
  have hst := o.steps
  have hst2 : ((t.ways.length : Int) == (s.steps.length : Int)) = false := by simp; omega
  have hkl : t.ways.length < s.steps.length := by omega
  have hw3 := (o0.ways _ (getD_mem hkl)).2.1
  have h3 := o0.steps
  have v0 := o0.first
  rw [growT_succ] at ha ⊢
  obtain ⟨w, hw⟩ : ∃ w, w = s.steps.getD t.ways.length default := ⟨_, rfl⟩
  have hwa : wayAt s t.ways.length = w := hw.symm
  rw [← hw] at hw3
  obtain ⟨tot, htot⟩ : ∃ tot, tot = acc ++ growFrom s n t 0 := ⟨_, rfl⟩
  rw [← htot]
  have hac0 : acc ++ growFrom s n t 0 = tot := htot.symm
  have htl : tot.length ≤ 1000 := by rw [htot, List.length_append]; omega
  clear htot ha
  have hcl := sp_Clone_int t.ways (by omega)
  have hca : callable Tryz.prog 162 = true := by kernel_rfl
  refine spec_body Tryz.func162 rfl (fun E hE => ?_); simp only [go_sem, Tryz.ntmps162]
  repeat' (first | (with_reducible (show runOps ..); first | (refine Qr rfl ?_; try intro K' hK; try simp only [go_sem, *]) | (refine Qi rfl rfl rfl rfl (fun hb K' hK => ?_) (fun hb => ?_) <;> (have hc := hb; try simp only [go_sem] at hc; simp only [go_sem, *]))) | (with_reducible (show Hold ..); first | refine Qh rfl ?_ | refine s_draw rfl Tryz.mixed (by kernel_rfl) ?_ | (refine s_cond rfl ⟨_, rfl, fun hb => ?_, fun hb => ?_⟩ <;> (have hc := hb; try simp only [go_sem] at hc)) | refine s_ret rfl ?_) | ((with_reducible refine Qb ?_ ?_); focus kernel_rfl) | ((with_reducible refine And.intro ?_ ?_); focus omega) | (refine contA_of hK ?_; clear hK K'; simp only [go_sem, *]) | (simp only [thenA, inBlockA, go_sem, *]))
  all_goals first | contradiction | skip
  rw [← hw]
  refine s_loop rfl (fun zn zN zenv zAs => ∃ (i : Nat) (ac : List Truth), zn = (w.length) - i ∧ i ≤ (w.length) ∧ (ac ++ growFrom s n t i = tot) ∧ zN = 79 ∧ zenv = [(41, iV i), (40, iV w.length), (39, .list (w.map Change.enc)), (4, .ptr 7 0), (1, .ptr 0 0), (2, .ptr 1 0), (3, .ptr 2 0)] ∧ zAs = [.box [.ptr 3 0], .box [.yld 4], .box [growF], taleBox s, .loopo (askedK fn) [(7, .ptr 5 0)] (some none), .box [.own 8 3 0 ac.length], .dead, .box [.list (t.ways.map iV), .list (t.fin.map encStreet), .fmap (keysP s.first) (movesP s.first t.now)], .row 3 (ac.map (Truth.enc s.first))]) (w.length) ⟨[some 0, some 1, some 2, some 3, some 4, some 5, some 6, some 7, some 6], [], _, _, _, (by (simp only [Weak, go_sem, List.map_append, List.map_set, *] <;> (try simp (disch := omega) only [wrap_succ]) <;> (try simp) <;> (try omega))), 0, acc, (by simp), (by simp), (by exact hac0), rfl, rfl, rfl⟩ ?_; rintro _ _ _ _ ⟨i, ac, rfl, hi, hP, rfl, rfl, rfl⟩
  clear hac0 hw
  by_cases hi2 : i < w.length
  ·obtain ⟨s1, s2⟩ := sp_effect_all t.fin (w.getD i default) o.val
   by_cases hcan : can t.fin (w.getD i default) = 0
   ·rw [growFrom_yes (by rw [hwa]; exact hi2) (by rw [hwa]; exact hcan), hwa] at hP
    have se := s2 hcan
    have f := Fit.of_can hcan
    have o2 := o.next hcan i
    have hal := congrArg List.length hP
    simp only [List.length_append] at hal
    have sg := IH (stepT t (w.getD i default) i) o2 ac (by omega)
    clear s1 s2 IH
    have sa := sp_after t.fin (w.getD i default) o.val f
    rw [o.town] at sa
    have sth := sp_then (housesOf s.first) (housesOf t.fin) t.now (mv t.fin (w.getD i default)) v0.nodup v0.wf o.val.wf o.mem (fun h hh => o.flat_nodup f hh) (fun h hh => by have := o.small2 h3 f hh; omega)
     (by have := v0.count; omega) (fun h hh => by have := o.small h3 hh; omega) (fun x _ => by have := mv_len f x; omega)
    repeat' (first | (with_reducible (show runOps ..); first | (refine Qr rfl ?_; try intro K' hK; try simp only [go_sem, *]) | (refine Qi rfl rfl rfl rfl (fun hb K' hK => ?_) (fun hb => ?_) <;> (have hc := hb; try simp only [go_sem] at hc; simp only [go_sem, *]))) | (with_reducible (show Hold ..); first | refine Qh rfl ?_ | (refine s_cond rfl ⟨_, rfl, fun hb => ?_, fun hb => ?_⟩ <;> (have hc := hb; try simp only [go_sem] at hc)) | refine s_ret rfl ?_) | (with_reducible (show callA ..); first | (refine call_n (se) ?_ ?_ ?_ ?_; (focus (simp only [go_sem, *]; done)); (focus (first | (simp; done) | (simp [go_sem]; done))); (focus (first | (simp; done) | (simp [go_sem]; done))); simp only [go_sem, *])) | ((with_reducible refine Qb ?_ ?_); focus kernel_rfl) | ((with_reducible refine And.intro ?_ ?_); focus omega) | (refine contA_of hK ?_; clear hK K'; simp only [go_sem, *]) | (simp only [thenA, inBlockA, go_sem, *]))
    all_goals first | contradiction | skip
    generalize w.getD i default = c at *
    refine hold_weak (N := 79) (env := [(9, .fmap (keysP t.fin) (movesP t.fin (mv t.fin c))), (7, iV i), (41, iV i), (40, iV w.length), (39, .list (w.map Change.enc)), (4, .ptr 7 0), (1, .ptr 0 0), (2, .ptr 1 0), (3, .ptr 2 0)])
     (As := [.box [.ptr 3 0], .box [.yld 4], .box [growF], taleBox s, .loopo (askedK fn) [(7, .ptr 5 0)] (some none), .box [.own 8 3 0 ac.length], .dead, .box [.list (t.ways.map iV), .list (t.fin.map encStreet), .fmap (keysP s.first) (movesP s.first t.now)], .row 3 (ac.map (Truth.enc s.first))])
     [some 0, some 1, some 2, some 3, some 4, some 5, some 6, some 7, some 8] [10] (by (simp only [Weak, go_sem, List.map_append, List.map_set, *] <;> (try simp (disch := omega) only [wrap_succ]) <;> (try simp) <;> (try omega))) ?_
    simp only [go_sem]
    repeat' (first | (with_reducible (show runOps ..); first | (refine Qr rfl ?_; try intro K' hK; try simp only [go_sem, *]) | (refine Qi rfl rfl rfl rfl (fun hb K' hK => ?_) (fun hb => ?_) <;> (have hc := hb; try simp only [go_sem] at hc; simp only [go_sem, *]))) | (with_reducible (show Hold ..); first | refine Qh rfl ?_ | refine s_draw rfl Tryz.mixed (by kernel_rfl) ?_ | (refine s_cond rfl ⟨_, rfl, fun hb => ?_, fun hb => ?_⟩ <;> (have hc := hb; try simp only [go_sem] at hc)) | refine s_ret rfl ?_) | (with_reducible (show callA ..); first | ((first | refine call_s (sa) ?_ ?_ | refine call_s (sth) ?_ ?_); (focus (simp only [go_sem, *]; done)); simp only [go_sem, *]) | (refine call_n (hcl) ?_ ?_ ?_ ?_; (focus (simp only [go_sem, *]; done)); (focus (first | (simp; done) | (simp [go_sem]; done))); (focus (first | (simp; done) | (simp [go_sem]; done))); simp only [go_sem, *])) | ((with_reducible refine Qb ?_ ?_); focus kernel_rfl) | ((with_reducible refine And.intro ?_ ?_); focus omega) | (refine contA_of hK ?_; clear hK K'; simp only [go_sem, *]) | (simp only [thenA, inBlockA, go_sem, *]))
    refine call_fzi [0, 1, 2, 3, 4, 5, 8] [11] sg rfl (by simp only [go_sem, Nat.le_refl]) (by simp) ?_ ?_ (by simp [go_sem]) (by simp [go_sem]) ?_
    ·simp only [go_sem, *, Nat.le_refl]
     exact ⟨by simp [stepT, List.take_of_length_le], rfl, rfl⟩
    ·simp only [go_sem, *]
    simp only [go_sem, deads, *]
    repeat' (first | (with_reducible (show runOps ..); first | (refine Qr rfl ?_; try intro K' hK; try simp only [go_sem, *]) | (refine Qi rfl rfl rfl rfl (fun hb K' hK => ?_) (fun hb => ?_) <;> (have hc := hb; try simp only [go_sem] at hc; simp only [go_sem, *]))) | (with_reducible (show Hold ..); first | refine Qh rfl ?_ | refine s_draw rfl Tryz.mixed (by kernel_rfl) ?_ | (refine s_cond rfl ⟨_, rfl, fun hb => ?_, fun hb => ?_⟩ <;> (have hc := hb; try simp only [go_sem] at hc)) | refine s_ret rfl ?_) | ((with_reducible refine Qb ?_ ?_); focus kernel_rfl) | ((with_reducible refine And.intro ?_ ?_); focus omega) | (refine contA_of hK ?_; clear hK K'; simp only [go_sem, *]) | (simp only [thenA, inBlockA, go_sem, *]))
    all_goals first | contradiction | skip
    refine ⟨_, (by omega), [some 0, some 1, some 2, some 3, some 4, some 5, some 6, some 7, some 12], [], _, _, _, (by (simp only [Weak, go_sem, List.map_append, List.map_set, *] <;> (try simp (disch := omega) only [wrap_succ]) <;> (try simp) <;> (try omega))), i + 1, ac ++ growT s n (stepT t c i), rfl, (by omega), (by rw [← hP]; simp), rfl, rfl, rfl⟩
   ·rw [growFrom_no (by rw [hwa]; exact hi2) (by rw [hwa]; exact hcan)] at hP
    have se := s1 hcan
    have hcb : (can t.fin (w.getD i default) == 0) = false := by simpa using hcan
    clear s1 s2 IH
    repeat' (first | (with_reducible (show runOps ..); first | (refine Qr rfl ?_; try intro K' hK; try simp only [go_sem, *]) | (refine Qi rfl rfl rfl rfl (fun hb K' hK => ?_) (fun hb => ?_) <;> (have hc := hb; try simp only [go_sem] at hc; simp only [go_sem, *]))) | (with_reducible (show Hold ..); first | refine Qh rfl ?_ | (refine s_cond rfl ⟨_, rfl, fun hb => ?_, fun hb => ?_⟩ <;> (have hc := hb; try simp only [go_sem] at hc)) | refine s_ret rfl ?_) | (with_reducible (show callA ..); first | (refine call_s (se) ?_ ?_; (focus (simp only [go_sem, *]; done)); simp only [go_sem, *])) | ((with_reducible refine Qb ?_ ?_); focus kernel_rfl) | ((with_reducible refine And.intro ?_ ?_); focus omega) | (refine contA_of hK ?_; clear hK K'; simp only [go_sem, *]) | (simp only [thenA, inBlockA, go_sem, *]))
    all_goals first | contradiction | skip
    refine ⟨_, (by omega), [some 0, some 1, some 2, some 3, some 4, some 5, some 6, some 7, some 8], [], _, _, _, (by (simp only [Weak, go_sem, List.map_append, List.map_set, *] <;> (try simp (disch := omega) only [wrap_succ]) <;> (try simp) <;> (try omega))), i + 1, ac, rfl, (by omega), (by exact hP), rfl, rfl, rfl⟩
  ·rw [growFrom_end (by rw [hwa]; omega), List.append_nil] at hP
   subst hP
   repeat' (first | (with_reducible (show runOps ..); first | (refine Qr rfl ?_; try intro K' hK; try simp only [go_sem, *]) | (refine Qi rfl rfl rfl rfl (fun hb K' hK => ?_) (fun hb => ?_) <;> (have hc := hb; try simp only [go_sem] at hc; simp only [go_sem, *]))) | (with_reducible (show Hold ..); first | refine Qh rfl ?_ | refine s_draw rfl Tryz.mixed (by kernel_rfl) ?_ | (refine s_cond rfl ⟨_, rfl, fun hb => ?_, fun hb => ?_⟩ <;> (have hc := hb; try simp only [go_sem] at hc)) | refine s_ret rfl ?_) | ((with_reducible refine Qb ?_ ?_); focus kernel_rfl) | ((with_reducible refine And.intro ?_ ?_); focus omega) | (refine contA_of hK ?_; clear hK K'; simp only [go_sem, *]) | (simp only [thenA, inBlockA, go_sem, *]))
   refine ⟨[_], [some 0, some 1, some 2, some 3, some 4, some 5, some 6, some 8], [], ⟨rfl, trivial⟩, ?_⟩
   simp only [go_sem, *]
end Go.Abs

