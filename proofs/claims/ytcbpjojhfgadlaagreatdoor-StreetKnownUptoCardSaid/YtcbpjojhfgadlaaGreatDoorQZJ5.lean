/-
  WHAT THE PROOF STANDS ON, PART 5: contracts of the program's functions and the logic that they are proved in. No condition.
-/
import Derived.Test.YtcbpjojhfgadlaaGreatDoorQZJ4
set_option maxRecDepth 100000
set_option maxHeartbeats 4000000
set_option linter.unusedVariables false
set_option linter.unusedSimpArgs false
set_option linter.unusedSectionVars false
namespace Go.Abs
open Go Go.Proofs Tryz
attribute [local irreducible] q8 Hold y4
def zOk (g : House → List House) (hs rem : List House) (i : Nat) (b0 b1 : List Plate) : Prop := rem.length + i = hs.length ∧ (∀ h, h ∈ rem → h ∈ hs) ∧ Bk b0 0 (rem.flatMap g) (hs.flatMap g) ∧ Bk b1 1 (rem.flatMap g) (hs.flatMap g)
def zOn (rest tot : List House) (b0 b1 : List Plate) : Prop := Bk b0 0 rest tot ∧ Bk b1 1 rest tot
theorem zIu (hs : List House) (g : House → List House) (hst : ∀ z, z ∈ hs.flatMap g → 0 ≤ z.street ∧ z.street < 2) (hnd : (hs.flatMap g).Nodup) (hlen : ∀ s : Nat, s < 2 → ((hs.flatMap g).filter (fun h => h.street == (s : Int))).length ≤ 12) (hsl : hs.length ≤ 1000) (hgl : ∀ h, h ∈ hs → (g h).length ≤ 1000) :
  zNV prog 57 [.fmap (hs.map House.key) (hs.map (zNY g)), iV 2] [] (y3 (laid (hs.flatMap g) 2)) [] := by
 have rz : List.replicate 2 (AV.raw (Value.slice none 0 0)) = [AV.raw (Value.slice none 0 0), AV.raw (Value.slice none 0 0)] := rfl
 have hmt : (zNr prog 117).isSome = true := by kernel_rfl
 have hv1 : IntKind.i64.wrap 1 = (1 : Int) := wrap_i64 (by omega) (by omega)
 have hv2 : IntKind.i64.wrap 2 = (2 : Int) := wrap_i64 (by omega) (by omega)
 have hv3 : IntKind.i64.wrap 3 = (3 : Int) := wrap_i64 (by omega) (by omega)
 refine z9 func57 rfl (fun E hE => ?_); simp only [go_sem, ntmps57]
 repeat' (first | (refine Qr rfl ?_; try intro _ hK; try simp only [go_sem, *]) | refine Qh rfl ?_ | refine Qd rfl (by kernel_rfl) ?_ | (refine Qc rfl rfl ?_ ?_ <;> (intro hb; have hc := hb; try simp only [go_sem] at hc)) | refine z6 rfl ?_ | (refine Qb ?_ ?_; focus kernel_rfl) | ((with_reducible apply And.intro); focus omega) | (refine z5 hK ?_; clear hK; simp only [go_sem, *]) | simp only [z3, z4, go_sem, *])
 refine Z7 rfl (fun zn zN zenv zAs => ∃ (i : Nat) (cur : Option (Value × AV)) (rem : List House) (b0 : List Plate) (b1 : List Plate), zn = (hs.length) - i ∧ i ≤ (hs.length) ∧ (zOk g hs rem i b0 b1) ∧ zN = 54 ∧ zenv = [(4, .ptr 0 0), (5, .ptr 1 0), (16, .ptr 5 0)] ∧ zAs = [.box [zNs], .box [.own 2 1 0 2], .box [.own 3 2 0 b0.length, .own 4 2 0 b1.length], .row 2 (b0.map Plate.enc), .row 2 (b1.map Plate.enc), .iter cur (rem.map House.key) (rem.map (zNY g))]) (hs.length) ⟨[some 0, some 2, some 1, none, none, some 3], [], _, _, _, (by (simp only [Weak, go_sem, List.map_append, List.map_set, *] <;> (try simp (disch := omega) only [y8]) <;> (try simp) <;> (try omega))), 0, none, hs, [], [], (by simp), (by simp), (by exact ⟨by omega, fun h hh => hh, Bk.start _ _, Bk.start _ _⟩), rfl, rfl, rfl⟩ ?_; rintro _ _ _ _ ⟨i, cur, rem, b0, b1, rfl, hi, hP, rfl, rfl, rfl⟩
 refine O7 rfl ?_
 refine E3 (o := 5) rfl rfl rfl rfl rfl rfl rfl cur (rem.map House.key) (rem.map (zNY g)) (by simp only [go_sem]) (by simp only [go_sem]) (show (17 : Nat) < 54 by decide) (show (18 : Nat) < 54 by decide) (fun hk _ => ?_) (fun r hr1 hr2 => ?_)
 ·simp only [go_sem]
  repeat' (first | (refine Qr rfl ?_; try intro _ hK; try simp only [go_sem, *]) | refine Qh rfl ?_ | refine Qd rfl (by kernel_rfl) ?_ | (refine Qc rfl rfl ?_ ?_ <;> (intro hb; have hc := hb; try simp only [go_sem] at hc)) | refine z6 rfl ?_ | (refine Qb ?_ ?_; focus kernel_rfl) | ((with_reducible apply And.intro); focus omega) | (refine z5 hK ?_; clear hK; simp only [go_sem, *]) | simp only [z3, z4, go_sem, *])
  obtain rfl : rem = [] := by simpa using hk
  obtain ⟨hlen0, hsub, p0, p1⟩ := hP
  rw [List.flatMap_nil] at p0 p1
  have hl0 := Nat.le_trans p0.len (hlen 0 (by omega))
  have hl1 := Nat.le_trans p1.len (hlen 1 (by omega))
  refine v5 rfl (2) (fun k => NoP k) 54 (fun k => [(46, iV k), (45, iV 2), (44, .own 2 1 0 2), (4, .ptr 0 0), (5, .ptr 1 0)]) (fun k => [.box [zNs], .box [.own 2 1 0 2], .box [.own 3 2 0 b0.length, .own 4 2 0 b1.length], .row 2 ((zOL k 0 b0).map Plate.enc), .row 2 ((zOL k 1 b1).map Plate.enc)]) [some 0, some 1, some 2, some 3, some 4] [] (by trivial) ?_; intro k hk hK
  rcases (by omega : k = 0 ∨ k = 1 ∨ k = 2) with rfl | rfl | rfl
  ·repeat' (first | (refine Qr rfl ?_; try intro _ hK; try simp only [go_sem, *]) | refine Qh rfl ?_ | refine Qd rfl (by kernel_rfl) ?_ | (refine Qc rfl rfl ?_ ?_ <;> (intro hb; have hc := hb; try simp only [go_sem] at hc)) | refine z6 rfl ?_ | (refine Qb ?_ ?_; focus kernel_rfl) | ((with_reducible apply And.intro); focus omega) | (refine z5 hK ?_; clear hK; simp only [go_sem, *]) | simp only [z3, z4, go_sem, *])
   refine x8 [3] [] (O9 (by kernel_rfl) V4 b0 (by omega)) (by simp) (by simp only [go_sem, *]) (by simp only [go_sem, AObj.live, *]) (by simp) (.inl rfl) (by simp [go_sem]) (by simp) ?_
   simp only [go_sem, AObj.ren, *]
   repeat' (first | (refine Qr rfl ?_; try intro _ hK; try simp only [go_sem, *]) | refine Qh rfl ?_ | refine Qd rfl (by kernel_rfl) ?_ | (refine Qc rfl rfl ?_ ?_ <;> (intro hb; have hc := hb; try simp only [go_sem] at hc)) | refine z6 rfl ?_ | (refine Qb ?_ ?_; focus kernel_rfl) | ((with_reducible apply And.intro); focus omega) | (refine z5 hK ?_; clear hK; simp only [go_sem, *]) | simp only [z3, z4, go_sem, *])
   exact v4 (i' := 0 + 1) [some 0, some 1, some 2, some 3, some 4] [] (by trivial)
  ·repeat' (first | (refine Qr rfl ?_; try intro _ hK; try simp only [go_sem, *]) | refine Qh rfl ?_ | refine Qd rfl (by kernel_rfl) ?_ | (refine Qc rfl rfl ?_ ?_ <;> (intro hb; have hc := hb; try simp only [go_sem] at hc)) | refine z6 rfl ?_ | (refine Qb ?_ ?_; focus kernel_rfl) | ((with_reducible apply And.intro); focus omega) | (refine z5 hK ?_; clear hK; simp only [go_sem, *]) | simp only [z3, z4, go_sem, *])
   refine x8 [4] [] (O9 (by kernel_rfl) V4 b1 (by omega)) (by simp) (by simp only [go_sem, *]) (by simp only [go_sem, AObj.live, *]) (by simp) (.inl rfl) (by simp [go_sem]) (by simp) ?_
   simp only [go_sem, AObj.ren, *]
   repeat' (first | (refine Qr rfl ?_; try intro _ hK; try simp only [go_sem, *]) | refine Qh rfl ?_ | refine Qd rfl (by kernel_rfl) ?_ | (refine Qc rfl rfl ?_ ?_ <;> (intro hb; have hc := hb; try simp only [go_sem] at hc)) | refine z6 rfl ?_ | (refine Qb ?_ ?_; focus kernel_rfl) | ((with_reducible apply And.intro); focus omega) | (refine z5 hK ?_; clear hK; simp only [go_sem, *]) | simp only [z3, z4, go_sem, *])
   exact v4 (i' := 1 + 1) [some 0, some 1, some 2, some 3, some 4] [] (by trivial)
  ·repeat' (first | (refine Qr rfl ?_; try intro _ hK; try simp only [go_sem, *]) | refine Qh rfl ?_ | refine Qd rfl (by kernel_rfl) ?_ | (refine Qc rfl rfl ?_ ?_ <;> (intro hb; have hc := hb; try simp only [go_sem] at hc)) | refine z6 rfl ?_ | (refine Qb ?_ ?_; focus kernel_rfl) | ((with_reducible apply And.intro); focus omega) | (refine z5 hK ?_; clear hK; simp only [go_sem, *]) | simp only [z3, z4, go_sem, *])
   have e : laid (hs.flatMap g) 2 = [w8 zNh b0, w8 zNh b1] := by
    rw [p0.fin hnd (n := 2) (by omega), p1.fin hnd (n := 2) (by omega)]; simp [laid, z7, List.range_succ]
   refine ⟨[.agg [.own 2 1 0 2]], [], [2, 3, 4], ⟨by simp only [x7, go_sem], trivial⟩, ?_⟩
   simp only [go_sem, e, *]
   exact .inr (by simp)
 ·obtain ⟨hr, hrk, hrx⟩ : ∃ hr : r < rem.length, (rem.map House.key)[r] = (rem[r]).key ∧ (rem.map (zNY g))[r] = .list ((g rem[r]).map House.enc) := ⟨by simpa using hr1, by simp, by simp [zNY]⟩
  rw [hrk, hrx, ← Y0, ← Y0]
  generalize (rem[r]).key = kk at *
  clear hrk
  simp only [go_sem]
  repeat' (first | (refine Qr rfl ?_; try intro _ hK; try simp only [go_sem, *]) | refine Qh rfl ?_ | refine Qd rfl (by kernel_rfl) ?_ | (refine Qc rfl rfl ?_ ?_ <;> (intro hb; have hc := hb; try simp only [go_sem] at hc)) | refine z6 rfl ?_ | (refine Qb ?_ ?_; focus kernel_rfl) | ((with_reducible apply And.intro); focus omega) | (refine z5 hK ?_; clear hK; simp only [go_sem, *]) | simp only [z3, z4, go_sem, *])
  obtain ⟨hlen0, hsub, p0, p1⟩ := hP
  have p0 := p0.pick r hr
  have p1 := p1.pick r hr
  have hll : (g rem[r]).length ≤ 1000 := hgl _ (hsub _ (List.getElem_mem hr))
  have hsl2 : ∀ z, z ∈ g rem[r] → 0 ≤ z.street ∧ z.street < 2 := fun z hz => hst z (List.mem_flatMap.2 ⟨_, hsub _ (List.getElem_mem hr), hz⟩)
  clear hrx
  generalize g rem[r] = l at *
  refine zAQ rfl (l.length) (fun j (b0 : List Plate) (b1 : List Plate) => zOn (l.drop j ++ (rem.eraseIdx r).flatMap g) (hs.flatMap g) b0 b1) 54 (fun j b0 b1 => [(23, iV j), (22, iV l.length), (21, X4 l), (4, .ptr 0 0), (5, .ptr 1 0), (16, .ptr 5 0)]) (fun j b0 b1 => [.box [zNs], .box [.own 2 1 0 2], .box [.own 3 2 0 b0.length, .own 4 2 0 b1.length], .row 2 (b0.map Plate.enc), .row 2 (b1.map Plate.enc), .iter (some (kk, .list (l.map House.enc))) ((rem.eraseIdx r).map House.key) ((rem.eraseIdx r).map (zNY g))]) [some 0, some 1, some 2, some 3, some 4, some 5] [] (b0) (b1) (by exact ⟨p0, p1⟩) ?_; intro j b0 b1 hj hQ
  by_cases hj : j < l.length
  ·have hz := hsl2 _ (w5 hj)
   have hdj := v3 hj
   rw [hdj, List.cons_append] at hQ
   obtain ⟨q0, q1⟩ := hQ
   have hl0 := Nat.le_trans q0.len (hlen 0 (by omega))
   have hl1 := Nat.le_trans q1.len (hlen 1 (by omega))
   clear hdj
   rcases (by omega : (l.getD j default).street = 0 ∨ (l.getD j default).street = 1) with hs0 | hs0
   ·repeat' (first | (refine Qr rfl ?_; try intro _ hK; try simp only [go_sem, *]) | refine Qh rfl ?_ | refine Qd rfl (by kernel_rfl) ?_ | (refine Qc rfl rfl ?_ ?_ <;> (intro hb; have hc := hb; try simp only [go_sem] at hc)) | refine z6 rfl ?_ | (refine Qb ?_ ?_; focus kernel_rfl) | ((with_reducible apply And.intro); focus omega) | (refine z5 hK ?_; clear hK; simp only [go_sem, *]) | simp only [z3, z4, go_sem, *])
    exact T3 (i' := j + 1) [some 0, some 1, some 2, some 8, some 4, some 5] [] (b0 ++ [(l.getD j default).plate]) (b1) (by exact ⟨q0.step_in (by rw [hs0]; rfl), q1.step_out (by rw [hs0]; decide)⟩)
   ·repeat' (first | (refine Qr rfl ?_; try intro _ hK; try simp only [go_sem, *]) | refine Qh rfl ?_ | refine Qd rfl (by kernel_rfl) ?_ | (refine Qc rfl rfl ?_ ?_ <;> (intro hb; have hc := hb; try simp only [go_sem] at hc)) | refine z6 rfl ?_ | (refine Qb ?_ ?_; focus kernel_rfl) | ((with_reducible apply And.intro); focus omega) | (refine z5 hK ?_; clear hK; simp only [go_sem, *]) | simp only [z3, z4, go_sem, *])
    exact T3 (i' := j + 1) [some 0, some 1, some 2, some 3, some 8, some 5] [] (b0) (b1 ++ [(l.getD j default).plate]) (by exact ⟨q0.step_out (by rw [hs0]; decide), q1.step_in (by rw [hs0]; rfl)⟩)
  ·repeat' (first | (refine Qr rfl ?_; try intro _ hK; try simp only [go_sem, *]) | refine Qh rfl ?_ | refine Qd rfl (by kernel_rfl) ?_ | (refine Qc rfl rfl ?_ ?_ <;> (intro hb; have hc := hb; try simp only [go_sem] at hc)) | refine z6 rfl ?_ | (refine Qb ?_ ?_; focus kernel_rfl) | ((with_reducible apply And.intro); focus omega) | (refine z5 hK ?_; clear hK; simp only [go_sem, *]) | simp only [z3, z4, go_sem, *])
   rw [u0 (by omega), List.nil_append] at hQ
   refine ⟨_, (by omega), [some 0, some 1, some 2, some 3, some 4, some 5], [], _, _, _, (by (simp only [Weak, go_sem, List.map_append, List.map_set, *] <;> (try simp (disch := omega) only [y8]) <;> (try simp) <;> (try omega))), i + 1, (some (kk, .list (l.map House.enc))), rem.eraseIdx r, b0, b1, rfl, (by omega), (by exact ⟨by rw [List.length_eraseIdx_of_lt hr]; omega, fun h hh => hsub h ((List.eraseIdx_sublist _ _).subset hh), hQ⟩), rfl, rfl, rfl⟩
end Go.Abs

namespace Go.Abs
open Go Go.Proofs Tryz
attribute [local irreducible] q8 Hold y4
def zOl (g : House → List House) (hs rem : List House) (i : Nat) (b0 b1 b2 : List Plate) : Prop := rem.length + i = hs.length ∧ (∀ h, h ∈ rem → h ∈ hs) ∧ Bk b0 0 (rem.flatMap g) (hs.flatMap g) ∧ Bk b1 1 (rem.flatMap g) (hs.flatMap g) ∧ Bk b2 2 (rem.flatMap g) (hs.flatMap g)
def zOo (rest tot : List House) (b0 b1 b2 : List Plate) : Prop := Bk b0 0 rest tot ∧ Bk b1 1 rest tot ∧ Bk b2 2 rest tot
theorem zIv (hs : List House) (g : House → List House) (hst : ∀ z, z ∈ hs.flatMap g → 0 ≤ z.street ∧ z.street < 3) (hnd : (hs.flatMap g).Nodup) (hlen : ∀ s : Nat, s < 3 → ((hs.flatMap g).filter (fun h => h.street == (s : Int))).length ≤ 12) (hsl : hs.length ≤ 1000) (hgl : ∀ h, h ∈ hs → (g h).length ≤ 1000) :
  zNV prog 57 [.fmap (hs.map House.key) (hs.map (zNY g)), iV 3] [] (y3 (laid (hs.flatMap g) 3)) [] := by
 have rz : List.replicate 3 (AV.raw (Value.slice none 0 0)) = [AV.raw (Value.slice none 0 0), AV.raw (Value.slice none 0 0), AV.raw (Value.slice none 0 0)] := rfl
 have hmt : (zNr prog 117).isSome = true := by kernel_rfl
 have hv1 : IntKind.i64.wrap 1 = (1 : Int) := wrap_i64 (by omega) (by omega)
 have hv2 : IntKind.i64.wrap 2 = (2 : Int) := wrap_i64 (by omega) (by omega)
 have hv3 : IntKind.i64.wrap 3 = (3 : Int) := wrap_i64 (by omega) (by omega)
 refine z9 func57 rfl (fun E hE => ?_); simp only [go_sem, ntmps57]
 repeat' (first | (refine Qr rfl ?_; try intro _ hK; try simp only [go_sem, *]) | refine Qh rfl ?_ | refine Qd rfl (by kernel_rfl) ?_ | (refine Qc rfl rfl ?_ ?_ <;> (intro hb; have hc := hb; try simp only [go_sem] at hc)) | refine z6 rfl ?_ | (refine Qb ?_ ?_; focus kernel_rfl) | ((with_reducible apply And.intro); focus omega) | (refine z5 hK ?_; clear hK; simp only [go_sem, *]) | simp only [z3, z4, go_sem, *])
 refine Z7 rfl (fun zn zN zenv zAs => ∃ (i : Nat) (cur : Option (Value × AV)) (rem : List House) (b0 : List Plate) (b1 : List Plate) (b2 : List Plate), zn = (hs.length) - i ∧ i ≤ (hs.length) ∧ (zOl g hs rem i b0 b1 b2) ∧ zN = 54 ∧ zenv = [(4, .ptr 0 0), (5, .ptr 1 0), (16, .ptr 6 0)] ∧ zAs = [.box [zNs], .box [.own 2 1 0 3], .box [.own 3 2 0 b0.length, .own 4 2 0 b1.length, .own 5 2 0 b2.length], .row 2 (b0.map Plate.enc), .row 2 (b1.map Plate.enc), .row 2 (b2.map Plate.enc), .iter cur (rem.map House.key) (rem.map (zNY g))]) (hs.length) ⟨[some 0, some 2, some 1, none, none, none, some 3], [], _, _, _, (by (simp only [Weak, go_sem, List.map_append, List.map_set, *] <;> (try simp (disch := omega) only [y8]) <;> (try simp) <;> (try omega))), 0, none, hs, [], [], [], (by simp), (by simp), (by exact ⟨by omega, fun h hh => hh, Bk.start _ _, Bk.start _ _, Bk.start _ _⟩), rfl, rfl, rfl⟩ ?_; rintro _ _ _ _ ⟨i, cur, rem, b0, b1, b2, rfl, hi, hP, rfl, rfl, rfl⟩
 refine O7 rfl ?_
 refine E3 (o := 6) rfl rfl rfl rfl rfl rfl rfl cur (rem.map House.key) (rem.map (zNY g)) (by simp only [go_sem]) (by simp only [go_sem]) (show (17 : Nat) < 54 by decide) (show (18 : Nat) < 54 by decide) (fun hk _ => ?_) (fun r hr1 hr2 => ?_)
 ·simp only [go_sem]
  repeat' (first | (refine Qr rfl ?_; try intro _ hK; try simp only [go_sem, *]) | refine Qh rfl ?_ | refine Qd rfl (by kernel_rfl) ?_ | (refine Qc rfl rfl ?_ ?_ <;> (intro hb; have hc := hb; try simp only [go_sem] at hc)) | refine z6 rfl ?_ | (refine Qb ?_ ?_; focus kernel_rfl) | ((with_reducible apply And.intro); focus omega) | (refine z5 hK ?_; clear hK; simp only [go_sem, *]) | simp only [z3, z4, go_sem, *])
  obtain rfl : rem = [] := by simpa using hk
  obtain ⟨hlen0, hsub, p0, p1, p2⟩ := hP
  rw [List.flatMap_nil] at p0 p1 p2
  have hl0 := Nat.le_trans p0.len (hlen 0 (by omega))
  have hl1 := Nat.le_trans p1.len (hlen 1 (by omega))
  have hl2 := Nat.le_trans p2.len (hlen 2 (by omega))
  refine v5 rfl (3) (fun k => NoP k) 54 (fun k => [(46, iV k), (45, iV 3), (44, .own 2 1 0 3), (4, .ptr 0 0), (5, .ptr 1 0)]) (fun k => [.box [zNs], .box [.own 2 1 0 3], .box [.own 3 2 0 b0.length, .own 4 2 0 b1.length, .own 5 2 0 b2.length], .row 2 ((zOL k 0 b0).map Plate.enc), .row 2 ((zOL k 1 b1).map Plate.enc), .row 2 ((zOL k 2 b2).map Plate.enc)]) [some 0, some 1, some 2, some 3, some 4, some 5] [] (by trivial) ?_; intro k hk hK
  rcases (by omega : k = 0 ∨ k = 1 ∨ k = 2 ∨ k = 3) with rfl | rfl | rfl | rfl
  ·repeat' (first | (refine Qr rfl ?_; try intro _ hK; try simp only [go_sem, *]) | refine Qh rfl ?_ | refine Qd rfl (by kernel_rfl) ?_ | (refine Qc rfl rfl ?_ ?_ <;> (intro hb; have hc := hb; try simp only [go_sem] at hc)) | refine z6 rfl ?_ | (refine Qb ?_ ?_; focus kernel_rfl) | ((with_reducible apply And.intro); focus omega) | (refine z5 hK ?_; clear hK; simp only [go_sem, *]) | simp only [z3, z4, go_sem, *])
   refine x8 [3] [] (O9 (by kernel_rfl) V4 b0 (by omega)) (by simp) (by simp only [go_sem, *]) (by simp only [go_sem, AObj.live, *]) (by simp) (.inl rfl) (by simp [go_sem]) (by simp) ?_
   simp only [go_sem, AObj.ren, *]
   repeat' (first | (refine Qr rfl ?_; try intro _ hK; try simp only [go_sem, *]) | refine Qh rfl ?_ | refine Qd rfl (by kernel_rfl) ?_ | (refine Qc rfl rfl ?_ ?_ <;> (intro hb; have hc := hb; try simp only [go_sem] at hc)) | refine z6 rfl ?_ | (refine Qb ?_ ?_; focus kernel_rfl) | ((with_reducible apply And.intro); focus omega) | (refine z5 hK ?_; clear hK; simp only [go_sem, *]) | simp only [z3, z4, go_sem, *])
   exact v4 (i' := 0 + 1) [some 0, some 1, some 2, some 3, some 4, some 5] [] (by trivial)
  ·repeat' (first | (refine Qr rfl ?_; try intro _ hK; try simp only [go_sem, *]) | refine Qh rfl ?_ | refine Qd rfl (by kernel_rfl) ?_ | (refine Qc rfl rfl ?_ ?_ <;> (intro hb; have hc := hb; try simp only [go_sem] at hc)) | refine z6 rfl ?_ | (refine Qb ?_ ?_; focus kernel_rfl) | ((with_reducible apply And.intro); focus omega) | (refine z5 hK ?_; clear hK; simp only [go_sem, *]) | simp only [z3, z4, go_sem, *])
   refine x8 [4] [] (O9 (by kernel_rfl) V4 b1 (by omega)) (by simp) (by simp only [go_sem, *]) (by simp only [go_sem, AObj.live, *]) (by simp) (.inl rfl) (by simp [go_sem]) (by simp) ?_
   simp only [go_sem, AObj.ren, *]
   repeat' (first | (refine Qr rfl ?_; try intro _ hK; try simp only [go_sem, *]) | refine Qh rfl ?_ | refine Qd rfl (by kernel_rfl) ?_ | (refine Qc rfl rfl ?_ ?_ <;> (intro hb; have hc := hb; try simp only [go_sem] at hc)) | refine z6 rfl ?_ | (refine Qb ?_ ?_; focus kernel_rfl) | ((with_reducible apply And.intro); focus omega) | (refine z5 hK ?_; clear hK; simp only [go_sem, *]) | simp only [z3, z4, go_sem, *])
   exact v4 (i' := 1 + 1) [some 0, some 1, some 2, some 3, some 4, some 5] [] (by trivial)
  ·repeat' (first | (refine Qr rfl ?_; try intro _ hK; try simp only [go_sem, *]) | refine Qh rfl ?_ | refine Qd rfl (by kernel_rfl) ?_ | (refine Qc rfl rfl ?_ ?_ <;> (intro hb; have hc := hb; try simp only [go_sem] at hc)) | refine z6 rfl ?_ | (refine Qb ?_ ?_; focus kernel_rfl) | ((with_reducible apply And.intro); focus omega) | (refine z5 hK ?_; clear hK; simp only [go_sem, *]) | simp only [z3, z4, go_sem, *])
   refine x8 [5] [] (O9 (by kernel_rfl) V4 b2 (by omega)) (by simp) (by simp only [go_sem, *]) (by simp only [go_sem, AObj.live, *]) (by simp) (.inl rfl) (by simp [go_sem]) (by simp) ?_
   simp only [go_sem, AObj.ren, *]
   repeat' (first | (refine Qr rfl ?_; try intro _ hK; try simp only [go_sem, *]) | refine Qh rfl ?_ | refine Qd rfl (by kernel_rfl) ?_ | (refine Qc rfl rfl ?_ ?_ <;> (intro hb; have hc := hb; try simp only [go_sem] at hc)) | refine z6 rfl ?_ | (refine Qb ?_ ?_; focus kernel_rfl) | ((with_reducible apply And.intro); focus omega) | (refine z5 hK ?_; clear hK; simp only [go_sem, *]) | simp only [z3, z4, go_sem, *])
   exact v4 (i' := 2 + 1) [some 0, some 1, some 2, some 3, some 4, some 5] [] (by trivial)
  ·repeat' (first | (refine Qr rfl ?_; try intro _ hK; try simp only [go_sem, *]) | refine Qh rfl ?_ | refine Qd rfl (by kernel_rfl) ?_ | (refine Qc rfl rfl ?_ ?_ <;> (intro hb; have hc := hb; try simp only [go_sem] at hc)) | refine z6 rfl ?_ | (refine Qb ?_ ?_; focus kernel_rfl) | ((with_reducible apply And.intro); focus omega) | (refine z5 hK ?_; clear hK; simp only [go_sem, *]) | simp only [z3, z4, go_sem, *])
   have e : laid (hs.flatMap g) 3 = [w8 zNh b0, w8 zNh b1, w8 zNh b2] := by
    rw [p0.fin hnd (n := 3) (by omega), p1.fin hnd (n := 3) (by omega), p2.fin hnd (n := 3) (by omega)]; simp [laid, z7, List.range_succ]
   refine ⟨[.agg [.own 2 1 0 3]], [], [2, 3, 4, 5], ⟨by simp only [x7, go_sem], trivial⟩, ?_⟩
   simp only [go_sem, e, *]
   exact .inr (by simp)
 ·obtain ⟨hr, hrk, hrx⟩ : ∃ hr : r < rem.length, (rem.map House.key)[r] = (rem[r]).key ∧ (rem.map (zNY g))[r] = .list ((g rem[r]).map House.enc) := ⟨by simpa using hr1, by simp, by simp [zNY]⟩
  rw [hrk, hrx, ← Y0, ← Y0]
  generalize (rem[r]).key = kk at *
  clear hrk
  simp only [go_sem]
  repeat' (first | (refine Qr rfl ?_; try intro _ hK; try simp only [go_sem, *]) | refine Qh rfl ?_ | refine Qd rfl (by kernel_rfl) ?_ | (refine Qc rfl rfl ?_ ?_ <;> (intro hb; have hc := hb; try simp only [go_sem] at hc)) | refine z6 rfl ?_ | (refine Qb ?_ ?_; focus kernel_rfl) | ((with_reducible apply And.intro); focus omega) | (refine z5 hK ?_; clear hK; simp only [go_sem, *]) | simp only [z3, z4, go_sem, *])
  obtain ⟨hlen0, hsub, p0, p1, p2⟩ := hP
  have p0 := p0.pick r hr
  have p1 := p1.pick r hr
  have p2 := p2.pick r hr
  have hll : (g rem[r]).length ≤ 1000 := hgl _ (hsub _ (List.getElem_mem hr))
  have hsl2 : ∀ z, z ∈ g rem[r] → 0 ≤ z.street ∧ z.street < 3 := fun z hz => hst z (List.mem_flatMap.2 ⟨_, hsub _ (List.getElem_mem hr), hz⟩)
  clear hrx
  generalize g rem[r] = l at *
  refine Z7 rfl (fun zn zN zenv zAs => ∃ (j : Nat) (b0 : List Plate) (b1 : List Plate) (b2 : List Plate), zn = (l.length) - j ∧ j ≤ (l.length) ∧ (zOo (l.drop j ++ (rem.eraseIdx r).flatMap g) (hs.flatMap g) b0 b1 b2) ∧ zN = 54 ∧ zenv = [(23, iV j), (22, iV l.length), (21, X4 l), (4, .ptr 0 0), (5, .ptr 1 0), (16, .ptr 6 0)] ∧ zAs = [.box [zNs], .box [.own 2 1 0 3], .box [.own 3 2 0 b0.length, .own 4 2 0 b1.length, .own 5 2 0 b2.length], .row 2 (b0.map Plate.enc), .row 2 (b1.map Plate.enc), .row 2 (b2.map Plate.enc), .iter (some (kk, .list (l.map House.enc))) ((rem.eraseIdx r).map House.key) ((rem.eraseIdx r).map (zNY g))]) (l.length) ⟨[some 0, some 1, some 2, some 3, some 4, some 5, some 6], [], _, _, _, (by (simp only [Weak, go_sem, List.map_append, List.map_set, *] <;> (try simp (disch := omega) only [y8]) <;> (try simp) <;> (try omega))), 0, b0, b1, b2, (by simp), (by simp), (by exact ⟨p0, p1, p2⟩), rfl, rfl, rfl⟩ ?_; rintro _ _ _ _ ⟨j, b0, b1, b2, rfl, hj, hQ, rfl, rfl, rfl⟩
  by_cases hj : j < l.length
  ·have hz := hsl2 _ (w5 hj)
   have hdj := v3 hj
   rw [hdj, List.cons_append] at hQ
   obtain ⟨q0, q1, q2⟩ := hQ
   have hl0 := Nat.le_trans q0.len (hlen 0 (by omega))
   have hl1 := Nat.le_trans q1.len (hlen 1 (by omega))
   have hl2 := Nat.le_trans q2.len (hlen 2 (by omega))
   clear hdj
   rcases (by omega : (l.getD j default).street = 0 ∨ (l.getD j default).street = 1 ∨ (l.getD j default).street = 2) with hs0 | hs0 | hs0
   ·repeat' (first | (refine Qr rfl ?_; try intro _ hK; try simp only [go_sem, *]) | refine Qh rfl ?_ | refine Qd rfl (by kernel_rfl) ?_ | (refine Qc rfl rfl ?_ ?_ <;> (intro hb; have hc := hb; try simp only [go_sem] at hc)) | refine z6 rfl ?_ | (refine Qb ?_ ?_; focus kernel_rfl) | ((with_reducible apply And.intro); focus omega) | (refine z5 hK ?_; clear hK; simp only [go_sem, *]) | simp only [z3, z4, go_sem, *])
    refine ⟨_, (by omega), [some 0, some 1, some 2, some 9, some 4, some 5, some 6], [], _, _, _, (by (simp only [Weak, go_sem, List.map_append, List.map_set, *] <;> (try simp (disch := omega) only [y8]) <;> (try simp) <;> (try omega))), j + 1, b0 ++ [(l.getD j default).plate], b1, b2, rfl, (by omega), (by exact ⟨q0.step_in (by rw [hs0]; rfl), q1.step_out (by rw [hs0]; decide), q2.step_out (by rw [hs0]; decide)⟩), rfl, rfl, rfl⟩
   ·repeat' (first | (refine Qr rfl ?_; try intro _ hK; try simp only [go_sem, *]) | refine Qh rfl ?_ | refine Qd rfl (by kernel_rfl) ?_ | (refine Qc rfl rfl ?_ ?_ <;> (intro hb; have hc := hb; try simp only [go_sem] at hc)) | refine z6 rfl ?_ | (refine Qb ?_ ?_; focus kernel_rfl) | ((with_reducible apply And.intro); focus omega) | (refine z5 hK ?_; clear hK; simp only [go_sem, *]) | simp only [z3, z4, go_sem, *])
    refine ⟨_, (by omega), [some 0, some 1, some 2, some 3, some 9, some 5, some 6], [], _, _, _, (by (simp only [Weak, go_sem, List.map_append, List.map_set, *] <;> (try simp (disch := omega) only [y8]) <;> (try simp) <;> (try omega))), j + 1, b0, b1 ++ [(l.getD j default).plate], b2, rfl, (by omega), (by exact ⟨q0.step_out (by rw [hs0]; decide), q1.step_in (by rw [hs0]; rfl), q2.step_out (by rw [hs0]; decide)⟩), rfl, rfl, rfl⟩
   ·repeat' (first | (refine Qr rfl ?_; try intro _ hK; try simp only [go_sem, *]) | refine Qh rfl ?_ | refine Qd rfl (by kernel_rfl) ?_ | (refine Qc rfl rfl ?_ ?_ <;> (intro hb; have hc := hb; try simp only [go_sem] at hc)) | refine z6 rfl ?_ | (refine Qb ?_ ?_; focus kernel_rfl) | ((with_reducible apply And.intro); focus omega) | (refine z5 hK ?_; clear hK; simp only [go_sem, *]) | simp only [z3, z4, go_sem, *])
    refine ⟨_, (by omega), [some 0, some 1, some 2, some 3, some 4, some 9, some 6], [], _, _, _, (by (simp only [Weak, go_sem, List.map_append, List.map_set, *] <;> (try simp (disch := omega) only [y8]) <;> (try simp) <;> (try omega))), j + 1, b0, b1, b2 ++ [(l.getD j default).plate], rfl, (by omega), (by exact ⟨q0.step_out (by rw [hs0]; decide), q1.step_out (by rw [hs0]; decide), q2.step_in (by rw [hs0]; rfl)⟩), rfl, rfl, rfl⟩
  ·repeat' (first | (refine Qr rfl ?_; try intro _ hK; try simp only [go_sem, *]) | refine Qh rfl ?_ | refine Qd rfl (by kernel_rfl) ?_ | (refine Qc rfl rfl ?_ ?_ <;> (intro hb; have hc := hb; try simp only [go_sem] at hc)) | refine z6 rfl ?_ | (refine Qb ?_ ?_; focus kernel_rfl) | ((with_reducible apply And.intro); focus omega) | (refine z5 hK ?_; clear hK; simp only [go_sem, *]) | simp only [z3, z4, go_sem, *])
   rw [u0 (by omega), List.nil_append] at hQ
   refine ⟨_, (by omega), [some 0, some 1, some 2, some 3, some 4, some 5, some 6], [], _, _, _, (by (simp only [Weak, go_sem, List.map_append, List.map_set, *] <;> (try simp (disch := omega) only [y8]) <;> (try simp) <;> (try omega))), i + 1, (some (kk, .list (l.map House.enc))), rem.eraseIdx r, b0, b1, b2, rfl, (by omega), (by exact ⟨by rw [List.length_eraseIdx_of_lt hr]; omega, fun h hh => hsub h ((List.eraseIdx_sublist _ _).subset hh), hQ⟩), rfl, rfl, rfl⟩
end Go.Abs

namespace Go.Abs
open Go Go.Proofs Tryz
attribute [local irreducible] q8 Hold y4
theorem Q0 (x : Plate) : (x.number == 0 && x.letter == 0) = decide (x = zeroPlate) := zHi x zeroPlate
theorem bf {a : Bool} (h : ¬ a = true) : a = false := by simpa using h
theorem zAu (p : zNU) (c : Change) (v : Valid p) :
  (can p c ≠ 0 → zNV prog 84 [y3 p, c.enc] [] (.tup [.raw (.map none), iV (can p c)]) []) ∧
  (can p c = 0 → zNV prog 84 [y3 p, c.enc] [] (.tup [.mp 0, iV 0]) [.mapo (y7 p) (y6 p (mv p c))]) := by
 have hl : p.length ≤ 1000 := by have := v.len; omega
 unfold can
 by_cases hk : zNX c.kind 1 7 = true
 rotate_left
 ·rw [if_pos (bf hk)]; exact ⟨fun _ => zE5 p c hl (bf hk), fun h => absurd h (by omega)⟩
 rw [if_neg (by simp [hk])]
 by_cases hs : zNX c.street 0 ((p.length : Int) - 1) = true
 rotate_left
 ·rw [if_pos (bf hs)]; exact ⟨fun _ => zFA p c hl hk (bf hs), fun h => absurd h (by omega)⟩
 rw [if_neg (by simp [hs])]
 have hk' := betw_iff.1 hk
 have hs' := betw_iff.1 hs
 by_cases h4 : c.kind = 4
 ·have k4 : (c.kind == 4) = true := by simp [h4]
  have k7 : (c.kind == 7) = false := by simp [h4]
  have k5 : decide (c.kind ≥ 5) = false := by simp [h4]
  by_cases ho : zNX c.other 0 ((p.length : Int) - 1) = true
  rotate_left
  ·rw [if_pos ⟨.inl h4, bf ho⟩]; exact ⟨fun _ => zE6 p c hl hk hs k4 (bf ho), fun h => absurd h (by omega)⟩
  rw [if_neg (by simp [ho])]
  have ho' := betw_iff.1 ho
  by_cases hr : c.other = c.street
  ·rw [if_pos ⟨.inl h4, hr⟩]; exact ⟨fun _ => zE8 p c hl hk hs k4 ho (by simp [hr]), fun h => absurd h (by omega)⟩
  rw [if_neg (by simp [hr])]
  have hr' : (c.other == c.street) = false := by simp [hr]
  by_cases hz : c.src = zeroPlate
  rotate_left
  ·rw [if_pos (.inr (.inl ⟨by omega, hz⟩))]; exact ⟨fun _ => zEu p c hl hk hs k4 ho hr' k5 (by rw [Q0]; simp [hz]), fun h => absurd h (by omega)⟩
  have hz' : (c.src.number == 0 && c.src.letter == 0) = true := by rw [Q0]; simp [hz]
  by_cases hd : c.dst = zeroPlate
  rotate_left
  ·rw [if_pos (.inr (.inr ⟨by omega, hd⟩))]; exact ⟨fun _ => zEw p c hl hk hs k4 k7 ho hr' k5 hz' (by rw [Q0]; simp [hd]), fun h => absurd h (by omega)⟩
  have hd' : (c.dst.number == 0 && c.dst.letter == 0) = true := by rw [Q0]; simp [hd]
  rw [if_neg (by simp [h4, hz, hd])]
  have sp := zE1 p c v ⟨hk', by omega, fun _ => by omega⟩ h4 ho hr' hz' hd'
  exact ⟨fun h => by simpa [zNa, zNZ, h] using sp, fun h => by simpa [zNa, zNZ, h] using sp⟩
 ·by_cases h7 : c.kind = 7
  ·have k4 : (c.kind == 4) = false := by simp [h7]
   have k7 : (c.kind == 7) = true := by simp [h7]
   by_cases ho : zNX c.other 0 ((p.length : Int) - 1) = true
   rotate_left
   ·rw [if_pos ⟨.inr h7, bf ho⟩]; exact ⟨fun _ => zE7 p c hl hk hs k4 k7 (bf ho), fun h => absurd h (by omega)⟩
   rw [if_neg (by simp [ho])]
   have ho' := betw_iff.1 ho
   by_cases hr : c.other = c.street
   ·rw [if_pos ⟨.inr h7, hr⟩]; exact ⟨fun _ => zE9 p c hl hk hs k4 k7 ho (by simp [hr]), fun h => absurd h (by omega)⟩
   rw [if_neg (by simp [hr])]
   rw [if_neg (by simp [h7])]
   have sp := zE4 p c v ⟨hk', by omega, fun _ => by omega⟩ h7 ho (by simp [hr])
   exact ⟨fun h => by simpa [zNa, zNZ, h] using sp, fun h => by simpa [zNa, zNZ, h] using sp⟩
  ·have k4 : (c.kind == 4) = false := by simp [h4]
   have k7 : (c.kind == 7) = false := by simp [h7]
   rw [if_neg (by simp [h4, h7]), if_neg (by simp [h4, h7])]
   by_cases ho : c.other = 0
   rotate_left
   ·rw [if_pos (.inl ⟨by simp [h4, h7], ho⟩)]; exact ⟨fun _ => zEs p c hl hk hs k4 k7 (by simp [ho]), fun h => absurd h (by omega)⟩
   have ho' : (c.other != 0) = false := by simp [ho]
   by_cases h5 : 5 ≤ c.kind
   ·have k5 : decide (c.kind ≥ 5) = true := by simp; omega
    by_cases hd : c.dst = zeroPlate
    rotate_left
    ·rw [if_pos (.inr (.inr ⟨h7, hd⟩))]; exact ⟨fun _ => zEx p c hl hk hs k4 k7 ho' k5 (by rw [Q0]; simp [hd]), fun h => absurd h (by omega)⟩
    have hd' : (c.dst.number == 0 && c.dst.letter == 0) = true := by rw [Q0]; simp [hd]
    rw [if_neg (by simp [h4, h7, ho, h5, hd])]
    have f : Pre p c := ⟨hk', by omega, fun _ => by omega⟩
    rcases (by omega : c.kind = 5 ∨ c.kind = 6) with k | k
    ·have sp := zE2 p c v f k ho' hd'
     exact ⟨fun h => by simpa [zNa, zNZ, h] using sp, fun h => by simpa [zNa, zNZ, h] using sp⟩
    ·have sp := zE3 p c v f k ho' hd'
     exact ⟨fun h => by simpa [zNa, zNZ, h] using sp, fun h => by simpa [zNa, zNZ, h] using sp⟩
   ·have k5 : decide (c.kind ≥ 5) = false := by simp; omega
    by_cases hz : c.src = zeroPlate
    rotate_left
    ·rw [if_pos (.inr (.inl ⟨h5, hz⟩))]; exact ⟨fun _ => zEt p c hl hk hs k4 k7 ho' k5 (by rw [Q0]; simp [hz]), fun h => absurd h (by omega)⟩
    have hz' : (c.src.number == 0 && c.src.letter == 0) = true := by rw [Q0]; simp [hz]
    by_cases hd : c.dst = zeroPlate
    rotate_left
    ·rw [if_pos (.inr (.inr ⟨h7, hd⟩))]; exact ⟨fun _ => zEv p c hl hk hs k4 k7 ho' k5 hz' (by rw [Q0]; simp [hd]), fun h => absurd h (by omega)⟩
    have hd' : (c.dst.number == 0 && c.dst.letter == 0) = true := by rw [Q0]; simp [hd]
    rw [if_neg (by simp [h4, h7, ho, hz, hd])]
    have f : Pre p c := ⟨hk', by omega, fun _ => by omega⟩
    rcases (by omega : c.kind = 1 ∨ c.kind = 2 ∨ c.kind = 3) with k | k | k
    ·have sp := zEy p c v f k ho' hz' hd'
     exact ⟨fun h => by simpa [zNa, zNZ, h] using sp, fun h => by simpa [zNa, zNZ, h] using sp⟩
    ·have sp := zEz p c v f k ho' hz' hd'
     exact ⟨fun h => by simpa [zNa, zNZ, h] using sp, fun h => by simpa [zNa, zNZ, h] using sp⟩
    ·have sp := zE0 p c v f k ho' hz' hd'
     exact ⟨fun h => by simpa [zNa, zNZ, h] using sp, fun h => by simpa [zNa, zNZ, h] using sp⟩
theorem zJn {p : zNU} {c : Change} (f : Fit p c) (x : Plate) : (toP p c x).length ≤ 2 := by
 rcases L4 f.kind with k | k | k | k | k | k | k
 ·rw [N2 k]; simp
 ·rw [S2 k]; simp
 ·rw [N1 k]; simp
 ·rw [S1 k]; simp
 ·rw [U0 k]; split <;> simp
 ·rw [S0 k]; split <;> simp
 ·rw [T9 k]; split <;> simp
theorem zAU {p : zNU} {c : Change} (f : Fit p c) (h : House) : (mv p c h).length ≤ 2 := by
 unfold mv; split
 ·exact zJn f _
 ·simp
theorem zEZ {p : zNU} {c : Change} (v : Valid p) (f : Fit p c) (s : Nat) (hs : s < p.length) : ((d4 p c).filter (fun h => h.street == (s : Int))).length ≤ 8 := by
 have h := zBD v f (s := s) (by omega) (by omega)
 refine Nat.le_trans ?_ h
 rw [← List.length_map (f := House.plate)]
 have hnd : (((d4 p c).filter (fun h => h.street == (s : Int))).map House.plate).Nodup := by
  rw [List.nodup_iff_pairwise_ne, List.pairwise_map]
  refine ((zBl v f).filter _).imp_of_mem (fun {a b} ha hb' hab e => hab ?_)
  have h1 := (List.mem_filter.1 ha).2
  have h2 := (List.mem_filter.1 hb').2
  simp at h1 h2
  cases a; cases b; simp_all
 refine P7 hnd (fun x hx => ?_)
 obtain ⟨z, hz, rfl⟩ := List.mem_map.1 hx
 obtain ⟨h1, h2⟩ := List.mem_filter.1 hz
 rw [u6, P4 (by omega) (by omega)]
 simp at h2
 rw [← h2]; exact h1
theorem zAr (p : zNU) (c : Change) (v : Valid p) (f : Fit p c) : zNV prog 57 [.fmap (y7 p) (y6 p (mv p c)), iV p.length] [] (y3 (u6 p c)) [] := by
 have hst : ∀ z, z ∈ (q6 p).flatMap (mv p c) → 0 ≤ z.street ∧ z.street < p.length := fun z hz => by have := H5 v f (z := z) hz; omega
 have hlen : ∀ s : Nat, s < p.length → (((q6 p).flatMap (mv p c)).filter (fun h => h.street == (s : Int))).length ≤ 12 := fun s hs => by have := zEZ v f s hs; unfold d4 at this; omega
 have hsl : (q6 p).length ≤ 1000 := by have := v.count; omega
 have hgl : ∀ h, h ∈ q6 p → (mv p c h).length ≤ 1000 := fun h _ => by have := zAU f h; omega
 have hnd := zBl v f
 have h0 := v.ne
 have h3 := v.len
 unfold u6 d4
 rcases (by omega : p.length = 1 ∨ p.length = 2 ∨ p.length = 3) with e | e | e <;> rw [e] at hst hlen ⊢
 ·exact zIt _ _ hst hnd hlen hsl hgl
 ·exact zIu _ _ hst hnd hlen hsl hgl
 ·exact zIv _ _ hst hnd hlen hsl hgl
theorem zJH (p : zNU) (c : Change) (hp : p.length ≤ 4294967296) :
  (p7 p c ≠ 0 → zNV prog 56 [y3 p, c.enc] [] (.tup [.raw (.map none), iV (p7 p c)]) []) ∧
  (p7 p c = 0 → zNV prog 56 [y3 p, c.enc] [] (.tup [.mp 0, iV 0]) [.mapo (y7 p) (y6 p (mv p c))]) := by
 by_cases hc : check p = 0
 ·have v := (Q1 p).1 hc
  have e : p7 p c = can p c := by simp [p7, hc]
  rw [e]
  obtain ⟨s1, s2⟩ := zAu p c v
  refine ⟨fun h => ?_, fun h => ?_⟩
  ·have s := s1 h
   refine z9 func56 rfl (fun E hE => ?_); simp only [go_sem, ntmps56]
   repeat' (first | (refine Qr rfl ?_; try intro _ hK; try simp only [go_sem, *]) | refine Qh rfl ?_ | (refine Qc rfl rfl ?_ ?_ <;> (intro hb; have hc := hb; try simp only [go_sem] at hc)) | refine z6 rfl ?_ | ((first | refine z8 (i9 p hp) ?_ | refine z8 (s) ?_); simp only [go_sem, *]) | ((with_reducible apply And.intro); focus omega) | (refine z5 hK ?_; clear hK; simp only [go_sem, *]) | simp only [z3, z4, go_sem, *])
   all_goals (refine ⟨[_, _], [], [], ⟨rfl, rfl, trivial⟩, ?_⟩; simp only [go_sem, *])
  ·have s := s2 h
   refine z9 func56 rfl (fun E hE => ?_); simp only [go_sem, ntmps56]
   repeat' (first | (refine Qr rfl ?_; try intro _ hK; try simp only [go_sem, *]) | refine Qh rfl ?_ | (refine Qc rfl rfl ?_ ?_ <;> (intro hb; have hc := hb; try simp only [go_sem] at hc)) | refine z6 rfl ?_ | (refine z8 (i9 p hp) ?_; simp only [go_sem, *]) | (refine u3 (s) ?_; simp only [go_sem, *]) | ((with_reducible apply And.intro); focus omega) | (refine z5 hK ?_; clear hK; simp only [go_sem, *]) | simp only [z3, z4, go_sem, *])
   refine ⟨[_, _], [some 2], [], ⟨rfl, rfl, trivial⟩, ?_⟩
   simp only [go_sem]
 ·have e : p7 p c = check p := by simp [p7, hc]
  rw [e]
  refine ⟨fun h => ?_, fun h => absurd h hc⟩
  refine z9 func56 rfl (fun E hE => ?_); simp only [go_sem, ntmps56]
  repeat' (first | (refine Qr rfl ?_; try intro _ hK; try simp only [go_sem, *]) | refine Qh rfl ?_ | (refine Qc rfl rfl ?_ ?_ <;> (intro hb; have hc := hb; try simp only [go_sem] at hc)) | refine z6 rfl ?_ | (refine z8 (i9 p hp) ?_; simp only [go_sem, *]) | ((with_reducible apply And.intro); focus omega) | (refine z5 hK ?_; clear hK; simp only [go_sem, *]) | simp only [z3, z4, go_sem, *])
  all_goals first | contradiction | (refine ⟨[_, _], [], [], ⟨rfl, rfl, trivial⟩, ?_⟩; simp only [go_sem, *])
theorem o3 {P : Program} {f : FuncId} {avs args : List AV} {H : Nat → AObj} {nx : Nat} {K : Cont} {r : AV} {out : List AObj} {gone : List Nat} (sp : zNV P f args [] r out) (ha : (avs.map fun x => (zNW H 3 x).1) = args) (hg : (avs.map fun x => (zNW H 3 x).2).flatten = gone)
  (hx : XpL (fun o => if o ∈ gone then .dead else H o) [] [] args args) (hu : ∀ j, j < out.length → (if nx + j ∈ gone then AObj.dead else H (nx + j)) = .unb) (h7 : ∀ A, A ∈ out → A ≠ .unb)
  (hk : K (r.ren (w7 [] nx)) (gone ++ i7 [] nx out) (w6 gone ++ u7 [] nx out)) : y4 P f avs H nx K := by
 refine zBQ ?_
 rw [ha, hg]
 exact C6 [] [] sp (by simp) hx trivial (by simp) (.inl rfl) (fun j hj => hu j (by simpa using hj)) h7 (by simpa using hk)
theorem zIS (p : zNU) (c : Change) (hp : p.length ≤ 4294967296) :
    zNV prog 23 [y3 p, c.enc] [] (.tup [y3 (if p7 p c = 0 then u6 p c else []), iV (p7 p c)]) [] := by
  obtain ⟨s1, s2⟩ := zJH p c hp
  by_cases e : p7 p c = 0
  · have hc : check p = 0 := by
      unfold p7 at e
      split at e <;> assumption
    have hcan : can p c = 0 := by unfold p7 at e; rw [if_pos hc] at e; exact e
    have v := (Q1 p).1 hc
    have f := Fit.of_can hcan
    have s := s2 e
    have sa := zAr p c v f
    rw [if_pos e, e]
    clear s1 s2
    refine z9 func23 rfl (fun E hE => ?_); simp only [go_sem, ntmps23]
    repeat' (first | (refine Qr rfl ?_; try intro _ hK; try simp only [go_sem, *]) | refine Qh rfl ?_ | (refine Qc rfl rfl ?_ ?_ <;> (intro hb; have hc := hb; try simp only [go_sem] at hc)) | refine z6 rfl ?_ | (refine u3 (s) ?_; simp only [go_sem, *]) | ((with_reducible apply And.intro); focus omega) | (refine z5 hK ?_; clear hK; simp only [go_sem, *]) | simp only [z3, z4, go_sem, *])
    refine o3 (gone := [3]) sa (by simp only [go_sem]) (by simp only [go_sem]) (by simp only [go_sem]) (by simp) (by simp) ?_
    simp only [go_sem, w6]
    repeat' (first | (refine Qr rfl ?_; try intro _ hK; try simp only [go_sem, *]) | refine Qh rfl ?_ | (refine Qc rfl rfl ?_ ?_ <;> (intro hb; have hc := hb; try simp only [go_sem] at hc)) | refine z6 rfl ?_ | ((with_reducible apply And.intro); focus omega) | (refine z5 hK ?_; clear hK; simp only [go_sem, *]) | simp only [z3, z4, go_sem, *])
    refine ⟨[y3 (u6 p c), iV 0], [], [], ⟨(by simp only [x7, go_sem]), rfl, trivial⟩, ?_⟩; simp only [go_sem, *]
  · have s := s1 e
    rw [if_neg e]
    clear s1 s2
    refine z9 func23 rfl (fun E hE => ?_); simp only [go_sem, ntmps23]
    repeat' (first | (refine Qr rfl ?_; try intro _ hK; try simp only [go_sem, *]) | refine Qh rfl ?_ | (refine Qc rfl rfl ?_ ?_ <;> (intro hb; have hc := hb; try simp only [go_sem] at hc)) | refine z6 rfl ?_ | (refine z8 (s) ?_; simp only [go_sem, *]) | ((with_reducible apply And.intro); focus omega) | (refine z5 hK ?_; clear hK; simp only [go_sem, *]) | simp only [z3, z4, go_sem, *])
    all_goals try contradiction
    refine ⟨[.agg [zNs], iV (p7 p c)], [], [], ⟨(by simp only [x7, go_sem]), rfl, trivial⟩, ?_⟩; simp only [go_sem, *]
end Go.Abs

namespace Go.Abs
open Go Go.Proofs Tryz
attribute [local irreducible] q8 Hold y4
theorem zJK {f : Nat} {cf : House → House → Int} (hcal : r8 prog f = true) (hf : ∀ a b : House, zNV prog f [a.enc, b.enc] [] (iV (cf a b)) []) (xs : List House) (h1 : xs.length ≤ 12) :
  zNV prog 112 [.own 0 3 0 xs.length, iV 0, iV xs.length, .any, fnV f] [.row 3 (xs.map House.enc)] (.tup []) [.row 3 ((w8 cf xs).map House.enc)] := by
 have hw : IntKind.i64.wrap ((xs.length : Int) - 0) = (xs.length : Int) := by rw [wrap_i64 (by omega) (by omega)]; omega
 have h12 : ((xs.length : Int) ≤ 12) = True := by simp only [eq_iff_iff, iff_true]; omega
 refine z9 func112 rfl (fun E hE => ?_); simp only [go_sem, ntmps112]
 repeat' (first | (refine Qr rfl ?_; try intro _ hK; try simp only [go_sem, *]) | (refine Qi rfl rfl rfl rfl ?_ ?_ <;> (intro hb; (try intro _ hK); have hc := hb; try simp only [go_sem] at hc; simp only [go_sem, *])) | refine Qh rfl ?_ | refine Qd rfl (by kernel_rfl) ?_ | (refine Qc rfl rfl ?_ ?_ <;> (intro hb; have hc := hb; try simp only [go_sem] at hc)) | refine z6 rfl ?_ | (refine Qb ?_ ?_; focus kernel_rfl) | ((with_reducible apply And.intro); focus omega) | (refine z5 hK ?_; clear hK; simp only [go_sem, *]) | simp only [z3, z4, go_sem, *])
 refine v5 rfl (1) (fun i => NoP i) 148 (fun i => [(0, .own 0 3 0 xs.length), (1, iV 0), (2, iV xs.length), (4, fnV f)]) (fun i => [.row 3 (xs.map House.enc)]) [some 0] [] (by trivial) ?_; intro i hi hP
 repeat' (first | (refine Qr rfl ?_; try intro _ hK; try simp only [go_sem, *]) | (refine Qi rfl rfl rfl rfl ?_ ?_ <;> (intro hb; (try intro _ hK); have hc := hb; try simp only [go_sem] at hc; simp only [go_sem, *])) | refine Qh rfl ?_ | refine Qd rfl (by kernel_rfl) ?_ | (refine Qc rfl rfl ?_ ?_ <;> (intro hb; have hc := hb; try simp only [go_sem] at hc)) | refine z6 rfl ?_ | (refine Qb ?_ ?_; focus kernel_rfl) | ((with_reducible apply And.intro); focus omega) | (refine z5 hK ?_; clear hK; simp only [go_sem, *]) | simp only [z3, z4, go_sem, *])
 refine x8 [0] [] (zI9 hcal hf xs h1) (by simp) (by simp only [go_sem, *]) (by simp only [go_sem, AObj.live, *]) (by simp) (.inl rfl) (by simp [go_sem]) (by simp) ?_
 simp only [go_sem, *]
 repeat' (first | (refine Qr rfl ?_; try intro _ hK; try simp only [go_sem, *]) | (refine Qi rfl rfl rfl rfl ?_ ?_ <;> (intro hb; (try intro _ hK); have hc := hb; try simp only [go_sem] at hc; simp only [go_sem, *])) | refine Qh rfl ?_ | refine Qd rfl (by kernel_rfl) ?_ | (refine Qc rfl rfl ?_ ?_ <;> (intro hb; have hc := hb; try simp only [go_sem] at hc)) | refine z6 rfl ?_ | (refine Qb ?_ ?_; focus kernel_rfl) | ((with_reducible apply And.intro); focus omega) | (refine z5 hK ?_; clear hK; simp only [go_sem, *]) | simp only [z3, z4, go_sem, *])
 refine ⟨[], [some 0], [], trivial, ?_⟩
 simp only [go_sem, Z4, AObj.ren, *]
theorem zIq {f : Nat} {cf : House → House → Int} (hcal : r8 prog f = true) (hf : ∀ a b : House, zNV prog f [a.enc, b.enc] [] (iV (cf a b)) []) (xs : List House) (h1 : xs.length ≤ 12) :
  zNV prog 87 [.own 0 3 0 xs.length, fnV f] [.row 3 (xs.map House.enc)] (.tup []) [.row 3 ((w8 cf xs).map House.enc)] := by
 have hw : IntKind.u64.wrap (xs.length : Int) = (xs.length : Int) := wrap_u64 (by omega) (by omega)
 refine z9 func87 rfl (fun E hE => ?_); simp only [go_sem, ntmps87]
 repeat' (first | (refine Qr rfl ?_; try intro _ hK; try simp only [go_sem, *]) | refine Qh rfl ?_ | (refine Qc rfl rfl ?_ ?_ <;> (intro hb; have hc := hb; try simp only [go_sem] at hc)) | refine z6 rfl ?_ | (refine z8 (zDB xs.length h1) ?_; simp only [go_sem, *]) | ((with_reducible apply And.intro); focus omega) | (refine z5 hK ?_; clear hK; simp only [go_sem, *]) | simp only [z3, z4, go_sem, *])
 refine x8 [0] [] (zJK hcal hf xs h1) (by simp) (by simp only [go_sem, *]) (by simp only [go_sem, AObj.live, *]) (by simp) (.inl rfl) (by simp [go_sem]) (by simp) ?_
 simp only [go_sem, *]
 repeat' (first | (refine Qr rfl ?_; try intro _ hK; try simp only [go_sem, *]) | refine Qh rfl ?_ | (refine Qc rfl rfl ?_ ?_ <;> (intro hb; have hc := hb; try simp only [go_sem] at hc)) | refine z6 rfl ?_ | ((with_reducible apply And.intro); focus omega) | (refine z5 hK ?_; clear hK; simp only [go_sem, *]) | simp only [z3, z4, go_sem, *])
 refine ⟨[], [some 0], [], trivial, ?_⟩
 simp only [go_sem, Z4, AObj.ren, *]
end Go.Abs

namespace Go.Abs
open Go
@[go_sem] theorem zME (m n : Nat) : ((m : Int) = (n : Int)) = (m = n) := by simp only [eq_iff_iff]; omega
@[go_sem] theorem zHF (m n : Nat) : ((m : Int) == (n : Int)) = decide (m = n) := by rw [Bool.eq_iff_iff]; simp only [beq_iff_eq, decide_eq_true_eq]; omega
@[go_sem] theorem zMB (m n : Nat) : ((m : Int) != (n : Int)) = !decide (m = n) := by simp [bne, zHF]
@[go_sem] theorem zNT : zeroPlate.number = 0 := rfl
@[go_sem] theorem zNS : zeroPlate.letter = 0 := rfl
end Go.Abs

namespace Go.Abs
open Go Go.Proofs Tryz
attribute [local irreducible] q8 Hold y4
section
variable {α : Type} {a b : List α} {i : Nat}
theorem Y7 (ha : a.length ≤ i) (hl : a.length = b.length) (h : a.take i = b.take i) : a = b := by
 rwa [List.take_of_length_le ha, List.take_of_length_le (by omega)] at h
variable [Inhabited α]
theorem zDa {l : List α} (h : i < l.length) : l.take (i + 1) = l.take i ++ [l.getD i default] := by
 rw [List.take_add_one]; simp [List.getD, h]
theorem Y8 (ha : i < a.length) (hb : i < b.length) (h : a.take i = b.take i) (e : a.getD i default = b.getD i default) : a.take (i + 1) = b.take (i + 1) := by
 rw [zDa ha, zDa hb, h, e]
theorem Y9 (e : ¬ a.getD i default = b.getD i default) : ¬ a = b := fun h => e (by rw [h])
end
theorem Q7 {α : Type} {a b : List α} (h : ¬ a.length = b.length) : ¬ a = b := fun e => h (by rw [e])
theorem zIi (a b : List Plate) (h1 : a.length ≤ 4294967296) : zNV prog 95 [q9 a, q9 b] [] (bV (decide (a = b))) [] := by
 refine z9 func95 rfl (fun E hE => ?_); simp only [go_sem, ntmps95]
 repeat' (first | (refine Qr rfl ?_; try intro _ hK; try simp only [go_sem, *]) | refine Qh rfl ?_ | refine Qd rfl (by kernel_rfl) ?_ | (refine Qc rfl rfl ?_ ?_ <;> (intro hb; have hc := hb; try simp only [go_sem] at hc)) | refine z6 rfl ?_ | (refine Qb ?_ ?_; focus kernel_rfl) | ((with_reducible apply And.intro); focus omega) | (refine z5 hK ?_; clear hK; simp only [go_sem, *]) | simp only [z3, z4, go_sem, *])
 ·(refine ⟨[_], [], [], ⟨rfl, trivial⟩, ?_⟩; simp only [go_sem, *])
  simp [Q7 (a := a) (b := b) (by assumption)]
 ·have hlb : a.length = b.length := by assumption
  refine v5 rfl (b.length) (fun i => a.take i = b.take i) 26 (fun i => [(13, iV i), (12, iV b.length), (0, q9 a), (1, q9 b)]) (fun i => []) [] [] (by simp) ?_; intro i hi hP
  repeat' (first | (refine Qr rfl ?_; try intro _ hK; try simp only [go_sem, *]) | refine Qh rfl ?_ | refine Qd rfl (by kernel_rfl) ?_ | (refine Qc rfl rfl ?_ ?_ <;> (intro hb; have hc := hb; try simp only [go_sem] at hc)) | refine z6 rfl ?_ | (refine Qb ?_ ?_; focus kernel_rfl) | ((with_reducible apply And.intro); focus omega) | (refine z5 hK ?_; clear hK; simp only [go_sem, *]) | simp only [z3, z4, go_sem, *])
  ·(refine ⟨[_], [], [], ⟨rfl, trivial⟩, ?_⟩; simp only [go_sem, *])
   simp [Y9 (a := a) (b := b) (i := i) (by assumption)]
  ·exact v4 (i' := i + 1) [] [] (by exact Y8 (by omega) (by omega) hP (by assumption))
  ·(refine ⟨[_], [], [], ⟨rfl, trivial⟩, ?_⟩; simp only [go_sem, *])
   simp [Y7 (by omega) hlb hP]
theorem zIg (a b : zNU) (h1 : a.length ≤ 4294967296) (hrl : ∀ l, l ∈ a → l.length ≤ 4294967296) : zNV prog 94 [.list (a.map q9), .list (b.map q9), fnV 95] [] (bV (decide (a = b))) [] := by
 have hca : r8 prog 95 = true := by kernel_rfl
 refine z9 func94 rfl (fun E hE => ?_); simp only [go_sem, ntmps94]
 repeat' (first | (refine Qr rfl ?_; try intro _ hK; try simp only [go_sem, *]) | refine Qh rfl ?_ | (refine Qc rfl rfl ?_ ?_ <;> (intro hb; have hc := hb; try simp only [go_sem] at hc)) | refine z6 rfl ?_ | ((with_reducible apply And.intro); focus omega) | (refine z5 hK ?_; clear hK; simp only [go_sem, *]) | simp only [z3, z4, go_sem, *])
 ·(refine ⟨[_], [], [], ⟨rfl, trivial⟩, ?_⟩; simp only [go_sem, *])
  simp [Q7 (a := a) (b := b) (by assumption)]
 ·have hlb : a.length = b.length := by assumption
  refine v5 rfl (b.length) (fun i => a.take i = b.take i) 32 (fun i => [(17, iV i), (16, iV b.length), (15, .list (a.map q9)), (1, .list (b.map q9)), (2, fnV 95)]) (fun i => []) [] [] (by simp) ?_; intro i hi hP
  repeat' (first | (refine Qr rfl ?_; try intro _ hK; try simp only [go_sem, *]) | refine Qh rfl ?_ | (refine Qc rfl rfl ?_ ?_ <;> (intro hb; have hc := hb; try simp only [go_sem] at hc)) | refine z6 rfl ?_ | (refine z8 (zIi (List.getD a i default) (List.getD b i default) (hrl _ (w5 (by omega)))) ?_; simp only [go_sem, *]) | ((with_reducible apply And.intro); focus omega) | (refine z5 hK ?_; clear hK; simp only [go_sem, *]) | simp only [z3, z4, go_sem, *])
  ·(refine ⟨[_], [], [], ⟨rfl, trivial⟩, ?_⟩; simp only [go_sem, *])
   simp [Y9 (a := a) (b := b) (i := i) (by assumption)]
  ·exact v4 (i' := i + 1) [] [] (by exact Y8 (by omega) (by omega) hP (by assumption))
  ·(refine ⟨[_], [], [], ⟨rfl, trivial⟩, ?_⟩; simp only [go_sem, *])
   simp [Y7 (by omega) hlb hP]
theorem zJN (a b : zNU) (h1 : a.length ≤ 4294967296) (hrl : ∀ l, l ∈ a → l.length ≤ 4294967296) : zNV prog 63 [y3 a, y3 b] [] (bV (decide (a = b))) [] := by
 refine z9 func63 rfl (fun E hE => ?_); simp only [go_sem, ntmps63]
 repeat' (first | (refine Qr rfl ?_; try intro _ hK; try simp only [go_sem, *]) | refine Qh rfl ?_ | (refine Qc rfl rfl ?_ ?_ <;> (intro hb; have hc := hb; try simp only [go_sem] at hc)) | refine z6 rfl ?_ | (refine z8 (zIg a b h1 hrl) ?_; simp only [go_sem, *]) | ((with_reducible apply And.intro); focus omega) | (refine z5 hK ?_; clear hK; simp only [go_sem, *]) | simp only [z3, z4, go_sem, *])
 all_goals (refine ⟨[_], [], [], ⟨rfl, trivial⟩, ?_⟩; simp only [go_sem, *])
end Go.Abs

namespace Go.Abs
open Go Go.Proofs Tryz
attribute [local irreducible] q8 Hold y4
def i5 (kind : Int) (p : zNU) (s : Nat) : List Change :=
 if kind = 4 then ((List.range p.length).filter (fun o => decide (o ≠ s))).map fun o => ⟨4, s, (o : Nat), zeroPlate, zeroPlate⟩
 else if kind = 5 ∨ kind = 6 then (p.getD s default).map fun x => ⟨kind, s, 0, x, zeroPlate⟩
 else [⟨kind, s, 0, zeroPlate, zeroPlate⟩]
def l9 (kind : Int) (p : zNU) (s : Nat) : List Change := (List.range' s (p.length - s)).flatMap (i5 kind p)
def j0 : Nat → zNU → List Change
 | 0, _ => []
 | m + 1, p => l9 (6 - (m : Nat)) p 0 ++ j0 m p
def u4 (p : zNU) : List Change := j0 6 p
theorem zGC {kind : Int} {p : zNU} {s : Nat} (h : s < p.length) : l9 kind p s = i5 kind p s ++ l9 kind p (s + 1) := by
 unfold l9
 rw [show p.length - s = (p.length - (s + 1)) + 1 by omega, List.range'_succ, List.flatMap_cons]
theorem zGA {kind : Int} {p : zNU} {s : Nat} (h : p.length ≤ s) : l9 kind p s = [] := by
 unfold l9
 rw [show p.length - s = 0 by omega]; rfl
theorem zF9 {kind : Int} {p : zNU} (v : Valid p) (s : Nat) : (i5 kind p s).length ≤ 8 := by
 unfold i5
 have := v.len
 have h := (v.row s).len
 unfold z7 at h
 split
 ·simp only [List.length_map]
  have := List.length_filter_le (fun o => decide (o ≠ s)) (List.range p.length)
  simp at this ⊢; omega
 ·split
  ·simpa using h
  ·simp
theorem zGB {kind : Int} {p : zNU} (v : Valid p) (s : Nat) : (l9 kind p s).length ≤ 24 := by
 have key : ∀ n s, ((List.range' s n).flatMap (i5 kind p)).length ≤ n * 8 := by
  intro n
  induction n with
  | zero => intro s; simp
  | succ n ih => intro s; have := ih (s + 1); have := zF9 (kind := kind) v s; simp only [List.range'_succ, List.flatMap_cons, List.length_append]; omega
 have := key (p.length - s) s
 have := v.len
 unfold l9; omega
theorem zAA {p : zNU} (v : Valid p) : ∀ m, (j0 m p).length ≤ m * 24
 | 0 => by simp [j0]
 | m + 1 => by
  have := zAA v m
  have := zGB (kind := 6 - (m : Nat)) v 0
  simp only [j0, List.length_append]; omega
def c0 (p : zNU) (s o : Nat) : List Change := ((List.range' o (p.length - o)).filter (fun o => decide (o ≠ s))).map fun o => ⟨4, s, (o : Nat), zeroPlate, zeroPlate⟩
theorem zF8 {p : zNU} {s : Nat} : i5 4 p s = c0 p s 0 := by simp [i5, c0, List.range_eq_range']
theorem zGn {p : zNU} {s o : Nat} (h : o < p.length) (e : o ≠ s) : c0 p s o = ⟨4, s, o, zeroPlate, zeroPlate⟩ :: c0 p s (o + 1) := by
 unfold c0
 rw [show p.length - o = (p.length - (o + 1)) + 1 by omega, List.range'_succ, List.filter_cons, if_pos (by simpa using e), List.map_cons]
theorem zGo {p : zNU} {s o : Nat} (h : o < p.length) (e : o = s) : c0 p s o = c0 p s (o + 1) := by
 unfold c0
 rw [show p.length - o = (p.length - (o + 1)) + 1 by omega, List.range'_succ, List.filter_cons, if_neg (by simpa using e)]
theorem zGm {p : zNU} {s o : Nat} (h : p.length ≤ o) : c0 p s o = [] := by
 unfold c0
 rw [show p.length - o = 0 by omega]; rfl
theorem zF5 {kind : Int} {p : zNU} {s : Nat} (h4 : ¬ kind = 4) (h : kind = 5 ∨ kind = 6) : i5 kind p s = (p.getD s default).map fun x => ⟨kind, s, 0, x, zeroPlate⟩ := by
 unfold i5; rw [if_neg h4, if_pos h]
theorem zF6 {kind : Int} {p : zNU} {s : Nat} (h4 : ¬ kind = 4) (h : ¬ (kind = 5 ∨ kind = 6)) : i5 kind p s = [⟨kind, s, 0, zeroPlate, zeroPlate⟩] := by
 unfold i5; rw [if_neg h4, if_neg h]
theorem zI7 (p : zNU) (v : Valid p) : zNV prog 99 [y3 p] [] (.list ((u4 p).map Change.enc)) [] := by
 have hp3 := v.len
 have hgl := zAA v 6
 refine z9 func99 rfl (fun E hE => ?_); simp only [go_sem, ntmps99]
 repeat' (first | (refine Qr rfl ?_; try intro _ hK; try simp only [go_sem, *]) | refine Qh rfl ?_ | (refine Qc rfl rfl ?_ ?_ <;> (intro hb; have hc := hb; try simp only [go_sem] at hc)) | refine z6 rfl ?_ | ((with_reducible apply And.intro); focus omega) | (refine z5 hK ?_; clear hK; simp only [go_sem, *]) | simp only [z3, z4, go_sem, *])
 refine v9 rfl (6) (fun m (acc : List Change) => acc ++ j0 (6 - m) p = u4 p) 67 (fun m acc => [(4, iV ((m : Int) + 1)), (3, .own 1 7 0 acc.length), (1, .ptr 0 0)]) (fun m acc => [zNi p, .row 7 (acc.map Change.enc)]) [some 0, none] [] ([]) (by rfl) ?_; intro m acc hm hP
 have hw : m < 6 → IntKind.i64.wrap ((m : Int) + 1 + 1) = (((m + 1 : Nat) : Int) + 1) := fun h => by rw [wrap_i64 (by omega) (by omega)]; omega
 have hm6 : ((m : Int) + 1 ≤ 6) = (m < 6) := by simp only [eq_iff_iff]; omega
 repeat' (first | (refine Qr rfl ?_; try intro _ hK; try simp only [go_sem, *]) | refine Qh rfl ?_ | (refine Qc rfl rfl ?_ ?_ <;> (intro hb; have hc := hb; try simp only [go_sem] at hc)) | refine z6 rfl ?_ | ((with_reducible apply And.intro); focus omega) | (refine z5 hK ?_; clear hK; simp only [go_sem, *]) | simp only [z3, z4, go_sem, *])
 ·have hm : m < 6 := by assumption
  obtain ⟨kk, hkk⟩ : ∃ kk : Int, kk = (m : Int) + 1 := ⟨_, rfl⟩
  have hstep : j0 (6 - m) p = l9 kk p 0 ++ j0 (6 - (m + 1)) p := by
   rw [show 6 - m = (6 - (m + 1)) + 1 by omega, j0, hkk]
   congr 2
   omega
  rw [hstep] at hP
  have hw2 : IntKind.i64.wrap (kk + 1) = ((m + 1 : Nat) : Int) + 1 := by rw [hkk, hw hm]
  clear hw
  rw [← hkk] at *
  clear hstep
  refine v9 rfl (p.length) (fun s (acc : List Change) => acc ++ (l9 kk p s ++ j0 (6 - (m + 1)) p) = u4 p) 67 (fun s acc => [(17, iV s), (16, iV p.length), (15, .list (p.map q9)), (4, iV kk), (3, .own 1 7 0 acc.length), (1, .ptr 0 0)]) (fun s acc => [zNi p, .row 7 (acc.map Change.enc)]) [some 0, some 1] [] (acc) (by exact hP) ?_; intro s acc hs hQ
  clear hP
  have hqle := congrArg List.length hQ
  simp only [List.length_append] at hqle
  unfold u4 at hqle
  by_cases hs : s < p.length
  ·rw [zGC hs] at hQ
   have hrow : (p.getD s default).length ≤ 8 := (v.rows _ (w5 hs)).len
   by_cases k4 : kk = 4
   ·subst k4
    rw [zF8] at hQ
    repeat' (first | (refine Qr rfl ?_; try intro _ hK; try simp only [go_sem, *]) | refine Qh rfl ?_ | (refine Qc rfl rfl ?_ ?_ <;> (intro hb; have hc := hb; try simp only [go_sem] at hc)) | refine z6 rfl ?_ | ((with_reducible apply And.intro); focus omega) | (refine z5 hK ?_; clear hK; simp only [go_sem, *]) | simp only [z3, z4, go_sem, *])
    refine v9 rfl (p.length) (fun o (acc : List Change) => acc ++ (c0 p s o ++ l9 4 p (s + 1)) ++ j0 (6 - (m + 1)) p = u4 p) 67 (fun o acc => [(34, iV o), (33, iV p.length), (5, iV s), (17, iV s), (16, iV p.length), (15, .list (p.map q9)), (4, iV 4), (3, .own 1 7 0 acc.length), (1, .ptr 0 0)]) (fun o acc => [zNi p, .row 7 (acc.map Change.enc)]) [some 0, some 1] [] (acc) (by simpa using hQ) ?_; intro o acc ho hR
    clear hQ hqle
    have hqle := congrArg List.length hR
    simp only [List.length_append] at hqle
    unfold u4 at hqle
    repeat' (first | (refine Qr rfl ?_; try intro _ hK; try simp only [go_sem, *]) | refine Qh rfl ?_ | (refine Qc rfl rfl ?_ ?_ <;> (intro hb; have hc := hb; try simp only [go_sem] at hc)) | refine z6 rfl ?_ | ((with_reducible apply And.intro); focus omega) | (refine z5 hK ?_; clear hK; simp only [go_sem, *]) | simp only [z3, z4, go_sem, *])
    ·exact x9 (i' := o + 1) [some 0, some 3] [] (acc ++ [⟨4, s, o, zeroPlate, zeroPlate⟩]) (by rw [← hR, zGn (o := o) (by assumption) (by omega)]; simp)
    ·exact x9 (i' := o + 1) [some 0, some 1] [] (acc) (by rw [← hR, zGo (o := o) (by assumption) (by omega)])
    ·rw [zGm (by omega), List.nil_append] at hR
     exact x9 (i' := s + 1) [some 0, some 1] [] (acc) (by simpa using hR)
   ·by_cases k5 : kk = 5 ∨ kk = 6
    ·rw [zF5 k4 k5] at hQ
     generalize hll : p.getD s default = l at *
     have hd : (kk == 4) = false := by simpa using k4
     rcases k5 with k5 | k5
     ·have h5 : (kk == 5) = true := by simp [k5]
      clear k5
      repeat' (first | (refine Qr rfl ?_; try intro _ hK; try simp only [go_sem, *]) | refine Qh rfl ?_ | (refine Qc rfl rfl ?_ ?_ <;> (intro hb; have hc := hb; try simp only [go_sem] at hc)) | refine z6 rfl ?_ | ((with_reducible apply And.intro); focus omega) | (refine z5 hK ?_; clear hK; simp only [go_sem, *]) | simp only [z3, z4, go_sem, *])
      refine v9 rfl (l.length) (fun o (acc : List Change) => acc ++ ((l.drop o).map (fun x => (⟨kk, s, 0, x, zeroPlate⟩ : Change)) ++ l9 kk p (s + 1)) ++ j0 (6 - (m + 1)) p = u4 p) 67 (fun o acc => [(53, iV o), (52, iV l.length), (51, q9 l), (5, iV s), (17, iV s), (16, iV p.length), (15, .list (p.map q9)), (4, iV kk), (3, .own 1 7 0 acc.length), (1, .ptr 0 0)]) (fun o acc => [zNi p, .row 7 (acc.map Change.enc)]) [some 0, some 1] [] (acc) (by simpa using hQ) ?_; intro o acc ho hR
      clear hQ hqle
      have hqle := congrArg List.length hR
      simp only [List.length_append] at hqle
      unfold u4 at hqle
      repeat' (first | (refine Qr rfl ?_; try intro _ hK; try simp only [go_sem, *]) | refine Qh rfl ?_ | (refine Qc rfl rfl ?_ ?_ <;> (intro hb; have hc := hb; try simp only [go_sem] at hc)) | refine z6 rfl ?_ | ((with_reducible apply And.intro); focus omega) | (refine z5 hK ?_; clear hK; simp only [go_sem, *]) | simp only [z3, z4, go_sem, *])
      ·have ed : l.drop o = l.getD o default :: l.drop (o + 1) := v3 (by assumption)
       exact x9 (i' := o + 1) [some 0, some 4] [] (acc ++ [⟨kk, s, 0, l.getD o default, zeroPlate⟩]) (by rw [← hR, ed]; simp)
      ·rw [u0 (by omega), List.map_nil, List.nil_append] at hR
       exact x9 (i' := s + 1) [some 0, some 1] [] (acc) (by simpa using hR)
     ·have h5 : (kk == 5) = false := by simp [k5]
      have h6 : (kk == 6) = true := by simp [k5]
      clear k5
      repeat' (first | (refine Qr rfl ?_; try intro _ hK; try simp only [go_sem, *]) | refine Qh rfl ?_ | (refine Qc rfl rfl ?_ ?_ <;> (intro hb; have hc := hb; try simp only [go_sem] at hc)) | refine z6 rfl ?_ | ((with_reducible apply And.intro); focus omega) | (refine z5 hK ?_; clear hK; simp only [go_sem, *]) | simp only [z3, z4, go_sem, *])
      refine v9 rfl (l.length) (fun o (acc : List Change) => acc ++ ((l.drop o).map (fun x => (⟨kk, s, 0, x, zeroPlate⟩ : Change)) ++ l9 kk p (s + 1)) ++ j0 (6 - (m + 1)) p = u4 p) 67 (fun o acc => [(53, iV o), (52, iV l.length), (51, q9 l), (5, iV s), (17, iV s), (16, iV p.length), (15, .list (p.map q9)), (4, iV kk), (3, .own 1 7 0 acc.length), (1, .ptr 0 0)]) (fun o acc => [zNi p, .row 7 (acc.map Change.enc)]) [some 0, some 1] [] (acc) (by simpa using hQ) ?_; intro o acc ho hR
      clear hQ hqle
      have hqle := congrArg List.length hR
      simp only [List.length_append] at hqle
      unfold u4 at hqle
      repeat' (first | (refine Qr rfl ?_; try intro _ hK; try simp only [go_sem, *]) | refine Qh rfl ?_ | (refine Qc rfl rfl ?_ ?_ <;> (intro hb; have hc := hb; try simp only [go_sem] at hc)) | refine z6 rfl ?_ | ((with_reducible apply And.intro); focus omega) | (refine z5 hK ?_; clear hK; simp only [go_sem, *]) | simp only [z3, z4, go_sem, *])
      ·have ed : l.drop o = l.getD o default :: l.drop (o + 1) := v3 (by assumption)
       exact x9 (i' := o + 1) [some 0, some 4] [] (acc ++ [⟨kk, s, 0, l.getD o default, zeroPlate⟩]) (by rw [← hR, ed]; simp)
      ·rw [u0 (by omega), List.map_nil, List.nil_append] at hR
       exact x9 (i' := s + 1) [some 0, some 1] [] (acc) (by simpa using hR)
    ·rw [zF6 k4 k5] at hQ
     have h4 : (kk == 4) = false := by simpa using k4
     have h5 : (kk == 5) = false := by simp only [not_or] at k5; simpa using k5.1
     have h6 : (kk == 6) = false := by simp only [not_or] at k5; simpa using k5.2
     repeat' (first | (refine Qr rfl ?_; try intro _ hK; try simp only [go_sem, *]) | refine Qh rfl ?_ | (refine Qc rfl rfl ?_ ?_ <;> (intro hb; have hc := hb; try simp only [go_sem] at hc)) | refine z6 rfl ?_ | ((with_reducible apply And.intro); focus omega) | (refine z5 hK ?_; clear hK; simp only [go_sem, *]) | simp only [z3, z4, go_sem, *])
     exact x9 (i' := s + 1) [some 0, some 3] [] (acc ++ [⟨kk, s, 0, zeroPlate, zeroPlate⟩]) (by simpa using hQ)
  ·repeat' (first | (refine Qr rfl ?_; try intro _ hK; try simp only [go_sem, *]) | refine Qh rfl ?_ | (refine Qc rfl rfl ?_ ?_ <;> (intro hb; have hc := hb; try simp only [go_sem] at hc)) | refine z6 rfl ?_ | ((with_reducible apply And.intro); focus omega) | (refine z5 hK ?_; clear hK; simp only [go_sem, *]) | simp only [z3, z4, go_sem, *])
   rw [zGA (by omega), List.nil_append] at hQ
   exact x9 (i' := m + 1) [some 0, some 1] [] (acc) (by exact hQ)
 ·refine ⟨[_], [], [1], ⟨rfl, trivial⟩, ?_⟩
  have h6 : 6 - m = 0 := by omega
  rw [h6] at hP
  simp only [j0, List.append_nil] at hP
  simp only [go_sem, hP, *]
  simp
end Go.Abs

namespace Go.Abs
open Go Go.Proofs Tryz
attribute [local irreducible] q8 Hold y4
theorem B9 {α β : Type} (f : α → List β) (p : β → Bool) : ∀ l : List α, (l.flatMap f).filter p = l.flatMap fun a => (f a).filter p
 | [] => rfl
 | a :: r => by simp only [List.flatMap_cons, List.filter_append, B9 f p r]
theorem A2 {α β : Type} {f g : α → List β} : ∀ {l : List α}, (∀ a, a ∈ l → f a = g a) → l.flatMap f = l.flatMap g
 | [], _ => rfl
 | a :: r, h => by
  have e1 := h a (by simp)
  have e2 := A2 (l := r) (fun b hb => h b (by simp [hb]))
  rw [List.flatMap_cons, List.flatMap_cons, e1, e2]
theorem zEh {p : zNU} {s : Int} : can p ⟨4, s, s, zeroPlate, zeroPlate⟩ ≠ 0 := by
 unfold can
 simp only
 split
 ·omega
 split
 ·omega
 split
 ·omega
 rw [if_pos (by simp)]; omega
theorem zF7 (kind : Int) (p : zNU) (s : Nat) : (i5 kind p s).filter (fun c => decide (can p c = 0)) = (C9 kind p s).filter (fun c => decide (can p c = 0)) := by
 unfold i5 C9
 split
 ·rw [List.filter_map, List.filter_map, List.filter_filter]
  congr 1
  refine List.filter_congr (fun o _ => ?_)
  simp only [Function.comp]
  by_cases e : o = s
  ·subst e
   have := @zEh p (o : Int)
   simp [this]
  ·simp [e]
 ·rfl
theorem zGD (p : zNU) : u4 p = ([1, 2, 3, 4, 5, 6] : List Int).flatMap fun k => l9 k p 0 := by
 simp [u4, j0]
theorem zEl (p : zNU) : B0 p = (u4 p).filter (fun c => decide (can p c = 0)) := by
 rw [zGD, B9]
 unfold B0
 refine A2 (fun k _ => ?_)
 unfold l9
 rw [B9, Nat.sub_zero, ← List.range_eq_range']
 exact A2 (fun s _ => (zF7 k p s).symm)
theorem zBc {α β : Type} {f : α → Option β} : ∀ {l : List α} {b : β}, o7 f l = some b → ∃ a, a ∈ l ∧ f a = some b
 | [], _, h => by simp [o7] at h
 | a :: r, b, h => by
  rw [o7] at h
  cases e : f a with
  | some x => rw [e] at h; simp only [Option.some.injEq] at h; subst h; exact ⟨a, by simp, e⟩
  | none =>
   rw [e] at h
   obtain ⟨c, hc1, hc2⟩ := zBc h
   exact ⟨c, by simp [hc1], hc2⟩
theorem zBv : ∀ {n : Nat} {p q : zNU} {l : List Change}, t8 n p q = some l → l.length ≤ n
 | 0, p, q, l, h => by
  unfold t8 at h
  split at h
  ·simp at h; subst h; simp
  ·simp at h
 | n + 1, p, q, l, h => by
  rw [t8] at h
  obtain ⟨c, _, h2⟩ := zBc h
  cases e : t8 n (u6 p c) q with
  | none => rw [e] at h2; simp at h2
  | some r =>
   rw [e] at h2
   simp at h2
   subst h2
   have := zBv e
   simp; omega
def zOK (o : Option (List Change)) : List Change := o.getD []
@[go_sem] theorem zMf (l : List Change) : zOK (some l) = l := rfl
@[go_sem] theorem zMe : zOK none = [] := rfl
theorem zDH : ∀ (n : Nat), n ≤ 2 → ∀ (p q : zNU), Valid p → zNV prog 70 [y3 p, y3 q, iV n] [] (.tup [.list ((zOK (t8 n p q)).map Change.enc), bV (t8 n p q).isSome]) []
 | 0, _, p, q, v => by
  have e1 : (t8 0 p q).isSome = decide (p = q) := by unfold t8; split <;> simp [*]
  have e2 : zOK (t8 0 p q) = [] := by unfold t8; split <;> rfl
  refine z9 func70 rfl (fun E hE => ?_); simp only [go_sem, ntmps70]
  repeat' (first | (refine Qr rfl ?_; try intro _ hK; try simp only [go_sem, *]) | refine Qh rfl ?_ | refine Qd rfl (by kernel_rfl) ?_ | (refine Qc rfl rfl ?_ ?_ <;> (intro hb; have hc := hb; try simp only [go_sem] at hc)) | refine z6 rfl ?_ | (refine Qb ?_ ?_; focus kernel_rfl) | (refine z8 (zJN p q (by have := v.len; omega) (fun l hl => by have := (v.rows l hl).len; omega)) ?_; simp only [go_sem, *]) | ((with_reducible apply And.intro); focus omega) | (refine z5 hK ?_; clear hK; simp only [go_sem, *]) | simp only [z3, z4, go_sem, *])
  (refine ⟨[_, _], [], [], ⟨rfl, rfl, trivial⟩, ?_⟩; simp only [go_sem, *])
 | n + 1, hn, p, q, v => by
  have IH := zDH n (by omega)
  have hw : IntKind.i64.wrap (((n + 1 : Nat) : Int) - 1) = (n : Int) := by rw [wrap_i64 (by omega) (by omega)]; omega
  have hn0 : (((n + 1 : Nat) : Int) == 0) = false := by simp; omega
  have hgl := zAA v 6
  have hglL : (u4 p).length ≤ 144 := hgl
  have hG : t8 (n + 1) p q = o7 (fun c => (t8 n (u6 p c) q).map (c :: ·)) ((u4 p).filter (fun c => decide (can p c = 0))) := by
   rw [t8, zEl]
  obtain ⟨G, hGe⟩ : ∃ G, G = t8 (n + 1) p q := ⟨_, rfl⟩
  rw [← hGe] at hG ⊢
  clear hGe
  have hG0 : o7 (fun c => (t8 n (u6 p c) q).map (c :: ·)) (((u4 p).drop 0).filter (fun c => decide (can p c = 0))) = G := hG.symm
  clear hG
  refine z9 func70 rfl (fun E hE => ?_); simp only [go_sem, ntmps70]
  repeat' (first | (refine Qr rfl ?_; try intro _ hK; try simp only [go_sem, *]) | refine Qh rfl ?_ | refine Qd rfl (by kernel_rfl) ?_ | (refine Qc rfl rfl ?_ ?_ <;> (intro hb; have hc := hb; try simp only [go_sem] at hc)) | refine z6 rfl ?_ | (refine Qb ?_ ?_; focus kernel_rfl) | (refine z8 (zI7 p v) ?_; simp only [go_sem, *]) | ((with_reducible apply And.intro); focus omega) | (refine z5 hK ?_; clear hK; simp only [go_sem, *]) | simp only [z3, z4, go_sem, *])
  refine v5 rfl ((u4 p).length) (fun i => o7 (fun c => (t8 n (u6 p c) q).map (c :: ·)) (((u4 p).drop i).filter (fun c => decide (can p c = 0))) = G) 52 (fun i => [(22, iV i), (21, iV (u4 p).length), (20, .list ((u4 p).map Change.enc)), (2, iV (n + 1 : Nat)), (3, .ptr 0 0), (4, .ptr 1 0)]) (fun i => [zNi p, zNi q]) [some 0, some 1] [] (by exact hG0) ?_; intro i hi hP
  by_cases hi2 : i < (u4 p).length
  ·obtain ⟨s1, s2⟩ := zAu p ((u4 p).getD i default) v
   rw [v3 hi2] at hP
   by_cases hcan : can p ((u4 p).getD i default) = 0
   ·have s := s2 hcan
    have f := Fit.of_can hcan
    have sa := zAr p _ v f
    have sr := IH (u6 p ((u4 p).getD i default)) q (zDg v f)
    rw [List.filter_cons, if_pos (by simpa using hcan)] at hP
    clear s1 s2 hcan IH
    repeat' (first | (refine Qr rfl ?_; try intro _ hK; try simp only [go_sem, *]) | refine Qh rfl ?_ | refine Qd rfl (by kernel_rfl) ?_ | (refine Qc rfl rfl ?_ ?_ <;> (intro hb; have hc := hb; try simp only [go_sem] at hc)) | refine z6 rfl ?_ | (refine Qb ?_ ?_; focus kernel_rfl) | (refine u3 (s) ?_; simp only [go_sem, *]) | ((with_reducible apply And.intro); focus omega) | (refine z5 hK ?_; clear hK; simp only [go_sem, *]) | simp only [z3, z4, go_sem, *])
    refine o3 (gone := [3]) sa (by simp only [go_sem]) (by simp only [go_sem]) (by simp only [go_sem]) (by simp) (by simp) ?_
    simp only [go_sem, w6]
    cases hgn : t8 n (u6 p ((u4 p).getD i default)) q with
    | none =>
     rw [hgn] at sr
     rw [o7, hgn] at hP
     simp only [Option.map_none] at hP
     repeat' (first | (refine Qr rfl ?_; try intro _ hK; try simp only [go_sem, *]) | refine Qh rfl ?_ | refine Qd rfl (by kernel_rfl) ?_ | (refine Qc rfl rfl ?_ ?_ <;> (intro hb; have hc := hb; try simp only [go_sem] at hc)) | refine z6 rfl ?_ | (refine Qb ?_ ?_; focus kernel_rfl) | (refine z8 (sr) ?_; simp only [go_sem, *]) | ((with_reducible apply And.intro); focus omega) | (refine z5 hK ?_; clear hK; simp only [go_sem, *]) | simp only [z3, z4, go_sem, *])
     all_goals try contradiction
     exact v4 (i' := i + 1) [some 0, some 1] [] (by exact hP)
    | some l =>
     rw [hgn] at sr
     rw [o7, hgn] at hP
     simp only [Option.map_some] at hP
     have hll := zBv hgn
     subst hP
     repeat' (first | (refine Qr rfl ?_; try intro _ hK; try simp only [go_sem, *]) | refine Qh rfl ?_ | refine Qd rfl (by kernel_rfl) ?_ | (refine Qc rfl rfl ?_ ?_ <;> (intro hb; have hc := hb; try simp only [go_sem] at hc)) | refine z6 rfl ?_ | (refine Qb ?_ ?_; focus kernel_rfl) | (refine z8 (sr) ?_; simp only [go_sem, *]) | ((with_reducible apply And.intro); focus omega) | (refine z5 hK ?_; clear hK; simp only [go_sem, *]) | simp only [z3, z4, go_sem, *])
     all_goals try contradiction
     refine ⟨fun y hy => ?_, fun y hy => ?_, by omega, Nat.le_trans (by omega) (by decide : 3 ≤ 9223372036854775807), ?_⟩
     ·obtain ⟨c, _, rfl⟩ := List.mem_map.1 hy
      simp [Change.enc, go_sem]
     ·obtain ⟨c, _, rfl⟩ := List.mem_map.1 hy
      simp [Change.enc, go_sem]
     ·repeat' (first | (refine Qr rfl ?_; try intro _ hK; try simp only [go_sem, *]) | refine Qh rfl ?_ | refine Qd rfl (by kernel_rfl) ?_ | (refine Qc rfl rfl ?_ ?_ <;> (intro hb; have hc := hb; try simp only [go_sem] at hc)) | refine z6 rfl ?_ | (refine Qb ?_ ?_; focus kernel_rfl) | ((with_reducible apply And.intro); focus omega) | (refine z5 hK ?_; clear hK; simp only [go_sem, *]) | simp only [z3, z4, go_sem, *])
      refine ⟨[_, _], [], [5], ⟨rfl, rfl, trivial⟩, ?_⟩
      simp only [go_sem, *]
      simp [Nat.add_comm, Change.enc, List.take_of_length_le]
   ·have s := s1 hcan
    rw [List.filter_cons, if_neg (by simpa using hcan)] at hP
    clear s1 s2 IH
    repeat' (first | (refine Qr rfl ?_; try intro _ hK; try simp only [go_sem, *]) | refine Qh rfl ?_ | refine Qd rfl (by kernel_rfl) ?_ | (refine Qc rfl rfl ?_ ?_ <;> (intro hb; have hc := hb; try simp only [go_sem] at hc)) | refine z6 rfl ?_ | (refine Qb ?_ ?_; focus kernel_rfl) | (refine z8 (s) ?_; simp only [go_sem, *]) | ((with_reducible apply And.intro); focus omega) | (refine z5 hK ?_; clear hK; simp only [go_sem, *]) | simp only [z3, z4, go_sem, *])
    all_goals try contradiction
    exact v4 (i' := i + 1) [some 0, some 1] [] (by exact hP)
  ·rw [u0 (by omega), List.filter_nil, o7] at hP
   subst hP
   repeat' (first | (refine Qr rfl ?_; try intro _ hK; try simp only [go_sem, *]) | refine Qh rfl ?_ | refine Qd rfl (by kernel_rfl) ?_ | (refine Qc rfl rfl ?_ ?_ <;> (intro hb; have hc := hb; try simp only [go_sem] at hc)) | refine z6 rfl ?_ | (refine Qb ?_ ?_; focus kernel_rfl) | ((with_reducible apply And.intro); focus omega) | (refine z5 hK ?_; clear hK; simp only [go_sem, *]) | simp only [z3, z4, go_sem, *])
   (refine ⟨[_, _], [], [], ⟨rfl, rfl, trivial⟩, ?_⟩; simp only [go_sem, *])
   all_goals simp
def d5 (p q : zNU) : Int :=
 if check p = 0 then if check q = 0 then if p.length = q.length then if (R6 p q).isSome then 0 else 11 else 11 else check q else check p
theorem zIk (p q : zNU) (h1 : check p = 0) (h2 : check q = 0) (h3 : p.length = q.length) (G : Option (List Change)) (hG : o7 (fun n => t8 n p q) ([0, 1, 2].drop 0) = G) :
  zNV prog 41 [y3 p, y3 q] [] (.tup [.list ((zOK G).map Change.enc), iV (if G.isSome = true then 0 else 11)]) [] := by
 have v := (Q1 p).1 h1
 have w := (Q1 q).1 h2
 have s1 := i9 p (by have := v.len; omega)
 have s2 := i9 q (by have := w.len; omega)
 have s3 := fun n hn => zDH n hn p q v
 rw [h1] at s1
 rw [h2] at s2
 clear h1 h2 w
 refine z9 func41 rfl (fun E hE => ?_); simp only [go_sem, ntmps41]
 repeat' (first | (refine Qr rfl ?_; try intro _ hK; try simp only [go_sem, *]) | refine Qh rfl ?_ | (refine Qc rfl rfl ?_ ?_ <;> (intro hb; have hc := hb; try simp only [go_sem] at hc)) | refine z6 rfl ?_ | ((first | refine z8 (s1) ?_ | refine z8 (s2) ?_); simp only [go_sem, *]) | ((with_reducible apply And.intro); focus omega) | (refine z5 hK ?_; clear hK; simp only [go_sem, *]) | simp only [z3, z4, go_sem, *])
 refine v5 rfl (3) (fun i => o7 (fun n => t8 n p q) ([0, 1, 2].drop i) = G) 41 (fun i => [(28, iV i), (2, .ptr 0 0), (3, .ptr 1 0)]) (fun i => [zNi p, zNi q]) [some 0, some 1] [] (by exact hG) ?_; intro i hi hP
 by_cases hi2 : i < 3
 ·have s := s3 i (by omega)
  have hi3 : (i : Int) < 3 := by omega
  have hd : ([0, 1, 2] : List Nat).drop i = i :: [0, 1, 2].drop (i + 1) := by
   match i, hi2 with
   | 0, _ => rfl
   | 1, _ => rfl
   | 2, _ => rfl
  rw [hd, o7] at hP
  cases hgn : t8 i p q with
  | none =>
   rw [hgn] at s hP
   simp only at hP
   repeat' (first | (refine Qr rfl ?_; try intro _ hK; try simp only [go_sem, *]) | refine Qh rfl ?_ | (refine Qc rfl rfl ?_ ?_ <;> (intro hb; have hc := hb; try simp only [go_sem] at hc)) | refine z6 rfl ?_ | (refine z8 (s) ?_; simp only [go_sem, *]) | ((with_reducible apply And.intro); focus omega) | (refine z5 hK ?_; clear hK; simp only [go_sem, *]) | simp only [z3, z4, go_sem, *])
   all_goals try contradiction
   exact v4 (i' := i + 1) [some 0, some 1] [] (by exact hP)
  | some l =>
   rw [hgn] at s hP
   simp only at hP
   subst hP
   repeat' (first | (refine Qr rfl ?_; try intro _ hK; try simp only [go_sem, *]) | refine Qh rfl ?_ | (refine Qc rfl rfl ?_ ?_ <;> (intro hb; have hc := hb; try simp only [go_sem] at hc)) | refine z6 rfl ?_ | (refine z8 (s) ?_; simp only [go_sem, *]) | ((with_reducible apply And.intro); focus omega) | (refine z5 hK ?_; clear hK; simp only [go_sem, *]) | simp only [z3, z4, go_sem, *])
   all_goals try contradiction
   (refine ⟨[_, _], [], [], ⟨rfl, rfl, trivial⟩, ?_⟩; simp only [go_sem, *])
 ·have hi3 : ¬ (i : Int) < 3 := by omega
  rw [show ([0, 1, 2] : List Nat).drop i = [] from List.drop_of_length_le (by simp; omega), o7] at hP
  subst hP
  repeat' (first | (refine Qr rfl ?_; try intro _ hK; try simp only [go_sem, *]) | refine Qh rfl ?_ | (refine Qc rfl rfl ?_ ?_ <;> (intro hb; have hc := hb; try simp only [go_sem] at hc)) | refine z6 rfl ?_ | ((with_reducible apply And.intro); focus omega) | (refine z5 hK ?_; clear hK; simp only [go_sem, *]) | simp only [z3, z4, go_sem, *])
  (refine ⟨[_, _], [], [], ⟨rfl, rfl, trivial⟩, ?_⟩; simp only [go_sem, *])
  all_goals simp
theorem zIj (p q : zNU) (hp : p.length ≤ 4294967296) (hq : q.length ≤ 4294967296) :
  zNV prog 41 [y3 p, y3 q] [] (.tup [.list ((zOK (if d5 p q = 0 then R6 p q else none)).map Change.enc), iV (d5 p q)]) [] := by
 by_cases h1 : check p = 0
 ·by_cases h2 : check q = 0
  ·by_cases h3 : p.length = q.length
   ·have s := zIk p q h1 h2 h3 (R6 p q) rfl
    have e : d5 p q = if (R6 p q).isSome = true then 0 else 11 := by simp [d5, h1, h2, h3]
    rw [e]
    cases hg : R6 p q with
    | none => rw [hg] at s; simpa using s
    | some l => rw [hg] at s; simpa using s
   ·have e : d5 p q = 11 := by simp [d5, h1, h2, h3]
    have s1 := i9 p hp
    have s2 := i9 q hq
    rw [h1] at s1
    rw [h2] at s2
    rw [e, if_neg (by decide)]
    have h4 : ((p.length : Int) == (q.length : Int)) = false := by simp; omega
    clear h1 h2
    refine z9 func41 rfl (fun E hE => ?_); simp only [go_sem, ntmps41]
    repeat' (first | (refine Qr rfl ?_; try intro _ hK; try simp only [go_sem, *]) | refine Qh rfl ?_ | (refine Qc rfl rfl ?_ ?_ <;> (intro hb; have hc := hb; try simp only [go_sem] at hc)) | refine z6 rfl ?_ | ((first | refine z8 (s1) ?_ | refine z8 (s2) ?_); simp only [go_sem, *]) | ((with_reducible apply And.intro); focus omega) | (refine z5 hK ?_; clear hK; simp only [go_sem, *]) | simp only [z3, z4, go_sem, *])
    all_goals try contradiction
    all_goals (refine ⟨[_, _], [], [], ⟨rfl, rfl, trivial⟩, ?_⟩; simp only [go_sem, *])
  ·have e : d5 p q = check q := by simp [d5, h1, h2]
   have s1 := i9 p hp
   have s2 := i9 q hq
   rw [h1] at s1
   rw [e, if_neg h2]
   have h4 : (check q == 0) = false := by simpa using h2
   have h5 : (check q != 0) = true := by simpa using h2
   clear h1 e h2
   generalize check q = k at *
   refine z9 func41 rfl (fun E hE => ?_); simp only [go_sem, ntmps41]
   repeat' (first | (refine Qr rfl ?_; try intro _ hK; try simp only [go_sem, *]) | refine Qh rfl ?_ | (refine Qc rfl rfl ?_ ?_ <;> (intro hb; have hc := hb; try simp only [go_sem] at hc)) | refine z6 rfl ?_ | ((first | refine z8 (s1) ?_ | refine z8 (s2) ?_); simp only [go_sem, *]) | ((with_reducible apply And.intro); focus omega) | (refine z5 hK ?_; clear hK; simp only [go_sem, *]) | simp only [z3, z4, go_sem, *])
   all_goals try contradiction
   all_goals (refine ⟨[_, _], [], [], ⟨rfl, rfl, trivial⟩, ?_⟩; simp only [go_sem, *])
 ·have e : d5 p q = check p := by simp [d5, h1]
  have s1 := i9 p hp
  rw [e, if_neg h1]
  have h4 : (check p == 0) = false := by simpa using h1
  have h5 : (check p != 0) = true := by simpa using h1
  clear e h1
  generalize check p = k at *
  refine z9 func41 rfl (fun E hE => ?_); simp only [go_sem, ntmps41]
  repeat' (first | (refine Qr rfl ?_; try intro _ hK; try simp only [go_sem, *]) | refine Qh rfl ?_ | (refine Qc rfl rfl ?_ ?_ <;> (intro hb; have hc := hb; try simp only [go_sem] at hc)) | refine z6 rfl ?_ | (refine z8 (s1) ?_; simp only [go_sem, *]) | ((with_reducible apply And.intro); focus omega) | (refine z5 hK ?_; clear hK; simp only [go_sem, *]) | simp only [z3, z4, go_sem, *])
  all_goals try contradiction
  all_goals (refine ⟨[_, _], [], [], ⟨rfl, rfl, trivial⟩, ?_⟩; simp only [go_sem, *])
end Go.Abs

namespace Go.Abs
open Go Go.Proofs Tryz
attribute [local irreducible] q8 Hold y4
theorem zIY (l : List Int) (h1 : l.length ≤ 4294967296) : zNV prog 117 [.list (l.map iV)] [] (.own 0 1 0 l.length) [.row 1 (l.map iV)] := by
 cases l with
 | nil =>
  refine zAy (fun a c => ?_)
  refine z9 func117 rfl (fun E hE => ?_); simp only [go_sem, ntmps117]
  repeat' (first | (refine Qr rfl ?_; try intro _ hK; try simp only [go_sem, *]) | refine Qh rfl ?_ | (refine Qc rfl rfl ?_ ?_ <;> (intro hb; have hc := hb; try simp only [go_sem] at hc)) | refine z6 rfl ?_ | ((with_reducible apply And.intro); focus omega) | (refine z5 hK ?_; clear hK; simp only [go_sem, *]) | simp only [z3, z4, go_sem, *])
  ·refine ⟨[_], [none], [], ⟨rfl, trivial⟩, ?_⟩
   simp only [go_sem, *]
   simp
  ·refine ⟨[_], [some 1], [], ⟨rfl, trivial⟩, ?_⟩
   simp only [go_sem, *]
 | cons x r =>
  have h2 : r.length + 1 ≤ 4294967296 := by simpa using h1
  refine z9 func117 rfl (fun E hE => ?_); simp only [go_sem, ntmps117]
  repeat' (first | (refine Qr rfl ?_; try intro _ hK; try simp only [go_sem, *]) | refine Qh rfl ?_ | (refine Qc rfl rfl ?_ ?_ <;> (intro hb; have hc := hb; try simp only [go_sem] at hc)) | refine z6 rfl ?_ | ((with_reducible apply And.intro); focus omega) | (refine z5 hK ?_; clear hK; simp only [go_sem, *]) | simp only [z3, z4, go_sem, *])
  all_goals try contradiction
  refine ⟨fun y hy => ?_, fun y hy => ?_, by omega, by omega, ?_⟩
  ·obtain ⟨z, _, rfl⟩ := List.mem_map.1 hy
   simp [go_sem]
  ·obtain ⟨z, _, rfl⟩ := List.mem_map.1 hy
   simp [go_sem]
  ·repeat' (first | (refine Qr rfl ?_; try intro _ hK; try simp only [go_sem, *]) | refine Qh rfl ?_ | (refine Qc rfl rfl ?_ ?_ <;> (intro hb; have hc := hb; try simp only [go_sem] at hc)) | refine z6 rfl ?_ | ((with_reducible apply And.intro); focus omega) | (refine z5 hK ?_; clear hK; simp only [go_sem, *]) | simp only [z3, z4, go_sem, *])
   refine ⟨[_], [some 1], [], ⟨rfl, trivial⟩, ?_⟩
   simp only [go_sem, *]
theorem zIa (l : List Plate) (h1 : l.length ≤ 4294967296) : zNV prog 96 [.list (l.map Plate.enc)] [] (.own 0 2 0 l.length) [.row 2 (l.map Plate.enc)] := by
 cases l with
 | nil =>
  refine zAy (fun a c => ?_)
  refine z9 func96 rfl (fun E hE => ?_); simp only [go_sem, ntmps96]
  repeat' (first | (refine Qr rfl ?_; try intro _ hK; try simp only [go_sem, *]) | refine Qh rfl ?_ | (refine Qc rfl rfl ?_ ?_ <;> (intro hb; have hc := hb; try simp only [go_sem] at hc)) | refine z6 rfl ?_ | ((with_reducible apply And.intro); focus omega) | (refine z5 hK ?_; clear hK; simp only [go_sem, *]) | simp only [z3, z4, go_sem, *])
  ·refine ⟨[_], [none], [], ⟨rfl, trivial⟩, ?_⟩
   simp only [go_sem, *]
   simp
  ·refine ⟨[_], [some 1], [], ⟨rfl, trivial⟩, ?_⟩
   simp only [go_sem, *]
 | cons x r =>
  have h2 : r.length + 1 ≤ 4294967296 := by simpa using h1
  refine z9 func96 rfl (fun E hE => ?_); simp only [go_sem, ntmps96]
  repeat' (first | (refine Qr rfl ?_; try intro _ hK; try simp only [go_sem, *]) | refine Qh rfl ?_ | (refine Qc rfl rfl ?_ ?_ <;> (intro hb; have hc := hb; try simp only [go_sem] at hc)) | refine z6 rfl ?_ | ((with_reducible apply And.intro); focus omega) | (refine z5 hK ?_; clear hK; simp only [go_sem, *]) | simp only [z3, z4, go_sem, *])
  all_goals try contradiction
  refine ⟨fun y hy => ?_, fun y hy => ?_, by omega, by omega, ?_⟩
  ·obtain ⟨z, _, rfl⟩ := List.mem_map.1 hy
   simp [go_sem]
  ·obtain ⟨z, _, rfl⟩ := List.mem_map.1 hy
   simp [go_sem]
  ·repeat' (first | (refine Qr rfl ?_; try intro _ hK; try simp only [go_sem, *]) | refine Qh rfl ?_ | (refine Qc rfl rfl ?_ ?_ <;> (intro hb; have hc := hb; try simp only [go_sem] at hc)) | refine z6 rfl ?_ | ((with_reducible apply And.intro); focus omega) | (refine z5 hK ?_; clear hK; simp only [go_sem, *]) | simp only [z3, z4, go_sem, *])
   refine ⟨[_], [some 1], [], ⟨rfl, trivial⟩, ?_⟩
   simp only [go_sem, *]
theorem zIZ (l : List House) (h1 : l.length ≤ 4294967296) : zNV prog 86 [.list (l.map House.enc)] [] (.own 0 3 0 l.length) [.row 3 (l.map House.enc)] := by
 cases l with
 | nil =>
  refine zAy (fun a c => ?_)
  refine z9 func86 rfl (fun E hE => ?_); simp only [go_sem, ntmps86]
  repeat' (first | (refine Qr rfl ?_; try intro _ hK; try simp only [go_sem, *]) | refine Qh rfl ?_ | (refine Qc rfl rfl ?_ ?_ <;> (intro hb; have hc := hb; try simp only [go_sem] at hc)) | refine z6 rfl ?_ | ((with_reducible apply And.intro); focus omega) | (refine z5 hK ?_; clear hK; simp only [go_sem, *]) | simp only [z3, z4, go_sem, *])
  ·refine ⟨[_], [none], [], ⟨rfl, trivial⟩, ?_⟩
   simp only [go_sem, *]
   simp
  ·refine ⟨[_], [some 1], [], ⟨rfl, trivial⟩, ?_⟩
   simp only [go_sem, *]
 | cons x r =>
  have h2 : r.length + 1 ≤ 4294967296 := by simpa using h1
  refine z9 func86 rfl (fun E hE => ?_); simp only [go_sem, ntmps86]
  repeat' (first | (refine Qr rfl ?_; try intro _ hK; try simp only [go_sem, *]) | refine Qh rfl ?_ | (refine Qc rfl rfl ?_ ?_ <;> (intro hb; have hc := hb; try simp only [go_sem] at hc)) | refine z6 rfl ?_ | ((with_reducible apply And.intro); focus omega) | (refine z5 hK ?_; clear hK; simp only [go_sem, *]) | simp only [z3, z4, go_sem, *])
  all_goals try contradiction
  refine ⟨fun y hy => ?_, fun y hy => ?_, by omega, by omega, ?_⟩
  ·obtain ⟨z, _, rfl⟩ := List.mem_map.1 hy
   simp [go_sem]
  ·obtain ⟨z, _, rfl⟩ := List.mem_map.1 hy
   simp [go_sem]
  ·repeat' (first | (refine Qr rfl ?_; try intro _ hK; try simp only [go_sem, *]) | refine Qh rfl ?_ | (refine Qc rfl rfl ?_ ?_ <;> (intro hb; have hc := hb; try simp only [go_sem] at hc)) | refine z6 rfl ?_ | ((with_reducible apply And.intro); focus omega) | (refine z5 hK ?_; clear hK; simp only [go_sem, *]) | simp only [z3, z4, go_sem, *])
   refine ⟨[_], [some 1], [], ⟨rfl, trivial⟩, ?_⟩
   simp only [go_sem, *]
def zOO (l : List House) (x : House) : Int := if x ∈ l then (l.idxOf x : Nat) else -1
theorem zB3 {l : List House} {x : House} (h : x ∈ l) : zOO l x = (l.idxOf x : Nat) := by simp [zOO, h]
theorem zB2 {l : List House} {x : House} (hn : x ∉ l) : zOO l x = -1 := by simp [zOO, hn]
theorem zJj {l : List House} {i : Nat} {x : House} (h : i < l.length) (hn : x ∉ l.take i) (hx : ¬ l.getD i default = x) : x ∉ l.take (i + 1) := by
 rw [List.take_add_one]
 simp only [List.getD_eq_getElem?_getD, List.getElem?_eq_getElem h, Option.getD_some] at hx
 simp only [List.getElem?_eq_getElem h, Option.toList_some, List.mem_append, List.mem_singleton, not_or]
 exact ⟨hn, fun e => hx e.symm⟩
theorem zGY {l : List House} {i : Nat} {x : House} (h : i < l.length) (hn : x ∉ l.take i) (hx : l.getD i default = x) : zOO l x = i := by
 have hg : l.drop i = x :: l.drop (i + 1) := by rw [v3 h, hx]
 have hl : l = l.take i ++ x :: l.drop (i + 1) := by rw [← hg, List.take_append_drop]
 have hm : x ∈ l := by rw [hl]; simp
 rw [zB3 hm]
 conv => lhs; rw [hl]
 rw [List.idxOf_append, if_neg hn]
 simp; omega
theorem zIl (l : List House) (x : House) (h1 : l.length ≤ 4294967296) : zNV prog 90 [.list (l.map House.enc), x.enc] [] (iV (zOO l x)) [] := by
 refine z9 func90 rfl (fun E hE => ?_); simp only [go_sem, ntmps90]
 repeat' (first | (refine Qr rfl ?_; try intro _ hK; try simp only [go_sem, *]) | refine Qh rfl ?_ | refine Qd rfl (by kernel_rfl) ?_ | (refine Qc rfl rfl ?_ ?_ <;> (intro hb; have hc := hb; try simp only [go_sem] at hc)) | refine z6 rfl ?_ | (refine Qb ?_ ?_; focus kernel_rfl) | ((with_reducible apply And.intro); focus omega) | (refine z5 hK ?_; clear hK; simp only [go_sem, *]) | simp only [z3, z4, go_sem, *])
 refine v5 rfl (l.length) (fun i => x ∉ l.take i) 19 (fun i => [(8, iV i), (7, iV l.length), (3, .ptr 0 0), (0, .list (l.map House.enc))]) (fun i => [.box [iV x.street, iV x.plate.number, iV x.plate.letter]]) [some 0] [] (by simp) ?_; intro i hi hP
 repeat' (first | (refine Qr rfl ?_; try intro _ hK; try simp only [go_sem, *]) | refine Qh rfl ?_ | refine Qd rfl (by kernel_rfl) ?_ | (refine Qc rfl rfl ?_ ?_ <;> (intro hb; have hc := hb; try simp only [go_sem] at hc)) | refine z6 rfl ?_ | (refine Qb ?_ ?_; focus kernel_rfl) | ((with_reducible apply And.intro); focus omega) | (refine z5 hK ?_; clear hK; simp only [go_sem, *]) | simp only [z3, z4, go_sem, *])
 ·(refine ⟨[_], [], [], ⟨rfl, trivial⟩, ?_⟩; simp only [go_sem, *])
  have e : x = l.getD i default := by assumption
  rw [← e]
  exact zAG (zGY (by assumption) hP e.symm)
 ·exact v4 (i' := i + 1) [some 0] [] (by exact zJj (by assumption) hP (fun e => absurd e.symm (by assumption)))
 ·(refine ⟨[_], [], [], ⟨rfl, trivial⟩, ?_⟩; simp only [go_sem, *])
  rw [List.take_of_length_le (by omega)] at hP
  rw [zB2 hP]
theorem zAn (l : List House) (x : House) (h1 : l.length ≤ 4294967296) : zNV prog 59 [.list (l.map House.enc), x.enc] [] (bV (decide (x ∈ l))) [] := by
 refine z9 func59 rfl (fun E hE => ?_); simp only [go_sem, ntmps59]
 repeat' (first | (refine Qr rfl ?_; try intro _ hK; try simp only [go_sem, *]) | refine Qh rfl ?_ | (refine Qc rfl rfl ?_ ?_ <;> (intro hb; have hc := hb; try simp only [go_sem] at hc)) | refine z6 rfl ?_ | (refine z8 (zIl l x h1) ?_; simp only [go_sem, *]) | ((with_reducible apply And.intro); focus omega) | (refine z5 hK ?_; clear hK; simp only [go_sem, *]) | simp only [z3, z4, go_sem, *])
 (refine ⟨[_], [], [], ⟨rfl, trivial⟩, ?_⟩; simp only [go_sem, *])
 refine I7 ?_
 by_cases hm : x ∈ l
 ·simp [zB3 hm, hm]
 ·simp [zB2 hm, hm]
theorem zIb (l : List House) (h1 : l.length ≤ 4294967296) (hn : l.Nodup) : zNV prog 89 [.own 0 3 0 l.length] [.row 3 (l.map House.enc)] (.own 0 3 0 l.length) [.row 3 (l.map House.enc)] := by
 have hne : ∀ i, i + 1 < l.length → ¬ l.getD (i + 1) default = l.getD i default := fun i hi e => by
  have e1 : l.getD (i + 1) default = l[i + 1] := by simp [List.getD, hi]
  have e2 : l.getD i default = l[i] := by simp [List.getD, show i < l.length by omega]
  rw [e1, e2] at e
  have := (Y1 hn).1 e
  omega
 refine z9 func89 rfl (fun E hE => ?_); simp only [go_sem, ntmps89]
 repeat' (first | (refine Qr rfl ?_; try intro _ hK; try simp only [go_sem, *]) | refine Qh rfl ?_ | refine Qd rfl (by kernel_rfl) ?_ | (refine Qc rfl rfl ?_ ?_ <;> (intro hb; have hc := hb; try simp only [go_sem] at hc)) | refine z6 rfl ?_ | (refine Qb ?_ ?_; focus kernel_rfl) | ((with_reducible apply And.intro); focus omega) | (refine z5 hK ?_; clear hK; simp only [go_sem, *]) | simp only [z3, z4, go_sem, *])
 ·refine ⟨[_], [some 0], [], ⟨rfl, trivial⟩, ?_⟩
  simp only [go_sem, *]
 ·refine v5 rfl (l.length - 1) (fun i => NoP i) 61 (fun i => [(3, iV ((i : Int) + 1)), (0, .own 0 3 0 l.length)]) (fun i => [.row 3 (l.map House.enc)]) [some 0] [] (by trivial) ?_; intro i hi hP
  have hw1 : i + 1 < l.length → IntKind.i64.wrap ((i : Int) + 1 - 1) = (i : Int) := fun h => by rw [wrap_i64 (by omega) (by omega)]; omega
  have hw2 : i + 1 < l.length → IntKind.i64.wrap ((i : Int) + 1 + 1) = (((i + 1 : Nat) : Int) + 1) := fun h => by rw [wrap_i64 (by omega) (by omega)]; omega
  have hlt : ((i : Int) + 1 < (l.length : Int)) = (i + 1 < l.length) := by simp only [eq_iff_iff]; omega
  have htn : ((i : Int) + 1).toNat = i + 1 := by omega
  by_cases h2 : i + 1 < l.length
  ·have h3 : i < l.length := by omega
   have hne := hne i h2
   have hne' : decide (l.getD (i + 1) default = l.getD i default) = false := by simpa using hne
   repeat' (first | (refine Qr rfl ?_; try intro _ hK; try simp only [go_sem, *]) | refine Qh rfl ?_ | refine Qd rfl (by kernel_rfl) ?_ | (refine Qc rfl rfl ?_ ?_ <;> (intro hb; have hc := hb; try simp only [go_sem] at hc)) | refine z6 rfl ?_ | (refine Qb ?_ ?_; focus kernel_rfl) | ((with_reducible apply And.intro); focus omega) | (refine z5 hK ?_; clear hK; simp only [go_sem, *]) | simp only [z3, z4, go_sem, *])
   all_goals try contradiction
   exact v4 (i' := i + 1) [some 0] [] (by trivial)
  ·repeat' (first | (refine Qr rfl ?_; try intro _ hK; try simp only [go_sem, *]) | refine Qh rfl ?_ | refine Qd rfl (by kernel_rfl) ?_ | (refine Qc rfl rfl ?_ ?_ <;> (intro hb; have hc := hb; try simp only [go_sem] at hc)) | refine z6 rfl ?_ | (refine Qb ?_ ?_; focus kernel_rfl) | ((with_reducible apply And.intro); focus omega) | (refine z5 hK ?_; clear hK; simp only [go_sem, *]) | simp only [z3, z4, go_sem, *])
   refine ⟨[_], [some 0], [], ⟨rfl, trivial⟩, ?_⟩
   simp only [go_sem, *]
theorem zGk {xs : List House} (hn : xs.Nodup) : Strict (w8 zNv xs) := by
 have h1 := zCA zNv zHW xs
 have h2 : (w8 zNv xs).Nodup := (T2 zNv xs).nodup_iff.2 hn
 refine (h1.and h2).imp (fun {a b} h => ?_)
 rcases House.lt_tri a b with h3 | h3 | h3
 ·exact h3
 ·exact absurd h3 h.2
 ·exact absurd ((B2 b a).2 h3) h.1
theorem zAH {xs : List House} (hn : xs.Nodup) : w8 zNv xs = p5 xs :=
 E9 (zGk hn) (J3 xs) (fun z => by rw [(T2 zNv xs).mem_iff, mem_sortH])
theorem zDI (l : List House) (hn : l.Nodup) (h12 : l.length ≤ 12) : zNV prog 58 [.list (l.map House.enc)] [] (.list ((p5 l).map House.enc)) [] := by
 have hcal : r8 prog 88 = true := by kernel_rfl
 have ss := zIq hcal (fun a b => zIy a b) l h12
 rw [zAH hn] at ss
 have hl : (p5 l).length = l.length := by rw [← zAH hn]; exact (T2 zNv l).length_eq
 have hns : (p5 l).Nodup := by rw [← zAH hn]; exact (T2 zNv l).nodup_iff.2 hn
 have sc := zIb (p5 l) (by omega) hns
 rw [hl] at sc
 have hl2 : l.length ≤ (p5 l).length := by omega
 have hl3 : (p5 l).length ≤ l.length := by omega
 clear hl hns
 have hcl := zIZ l (by omega)
 refine z9 func58 rfl (fun E hE => ?_); simp only [go_sem, ntmps58]
 repeat' (first | (refine Qr rfl ?_; try intro _ hK; try simp only [go_sem, *]) | refine Qh rfl ?_ | (refine Qc rfl rfl ?_ ?_ <;> (intro hb; have hc := hb; try simp only [go_sem] at hc)) | refine z6 rfl ?_ | (refine u3 (hcl) ?_; simp only [go_sem, *]) | ((with_reducible apply And.intro); focus omega) | (refine z5 hK ?_; clear hK; simp only [go_sem, *]) | simp only [z3, z4, go_sem, *])
 refine x8 [0] [] ss (by simp) (by simp only [go_sem, *]) (by simp only [go_sem, AObj.live, *]) (by simp) (.inl rfl) (by simp [go_sem]) (by simp) ?_
 simp only [go_sem, *]
 repeat' (first | (refine Qr rfl ?_; try intro _ hK; try simp only [go_sem, *]) | refine Qh rfl ?_ | (refine Qc rfl rfl ?_ ?_ <;> (intro hb; have hc := hb; try simp only [go_sem] at hc)) | refine z6 rfl ?_ | ((with_reducible apply And.intro); focus omega) | (refine z5 hK ?_; clear hK; simp only [go_sem, *]) | simp only [z3, z4, go_sem, *])
 refine x8 [0] [] sc (by simp) (by simp only [go_sem, *]) (by simp only [go_sem, AObj.live, *]) (by simp) (.inl rfl) (by simp [go_sem]) (by simp) ?_
 simp only [go_sem, *]
 repeat' (first | (refine Qr rfl ?_; try intro _ hK; try simp only [go_sem, *]) | refine Qh rfl ?_ | (refine Qc rfl rfl ?_ ?_ <;> (intro hb; have hc := hb; try simp only [go_sem] at hc)) | refine z6 rfl ?_ | ((with_reducible apply And.intro); focus omega) | (refine z5 hK ?_; clear hK; simp only [go_sem, *]) | simp only [z3, z4, go_sem, *])
 refine ⟨[_], [], [0], ⟨rfl, trivial⟩, ?_⟩
 simp only [go_sem, *]
 exact (List.take_of_length_le (by simpa using hl3)).symm
end Go.Abs

namespace Go.Abs
open Go Go.Proofs Tryz
attribute [local irreducible] q8 Hold y4
@[go_sem] theorem zMS (h : House) : r4 h.key = h.enc := by simp [House.key, House.enc, r4, Value.oneCell']
def ThP (hs don rem : List House) (i : Nat) : Prop := rem.length + i = hs.length ∧ (don ++ rem).Perm hs
def V9 (f g : House → List House) (h : House) : List House := p5 ((f h).flatMap g)
theorem zJS (hs ks : List House) (f g : House → List House) (hn : hs.Nodup) (hw : ∀ k, k ∈ hs → k.Wf) (kw : ∀ k, k ∈ ks → k.Wf) (hk : ∀ h, h ∈ hs → ∀ x, x ∈ f h → x ∈ ks) (hnd : ∀ h, h ∈ hs → ((f h).flatMap g).Nodup) (h12 : ∀ h, h ∈ hs → ((f h).flatMap g).length ≤ 12)
  (hsl : hs.length ≤ 1000) (hfl : ∀ h, h ∈ hs → (f h).length ≤ 1000) (hgl : ∀ x, x ∈ ks → (g x).length ≤ 1000) :
  zNV prog 118 [.fmap (hs.map House.key) (hs.map (zNY f)), .fmap (ks.map House.key) (ks.map (zNY g))] [] (.fmap (hs.map House.key) (hs.map (zNY (V9 f g)))) [] := by
 have hmt : (zNr prog 117).isSome = true := by kernel_rfl
 refine z9 func118 rfl (fun E hE => ?_); simp only [go_sem, ntmps118]
 repeat' (first | (refine Qr rfl ?_; try intro _ hK; try simp only [go_sem, *]) | refine Qh rfl ?_ | refine Qd rfl (by kernel_rfl) ?_ | (refine Qc rfl rfl ?_ ?_ <;> (intro hb; have hc := hb; try simp only [go_sem] at hc)) | refine z6 rfl ?_ | (refine Qb ?_ ?_; focus kernel_rfl) | ((with_reducible apply And.intro); focus omega) | (refine z5 hK ?_; clear hK; simp only [go_sem, *]) | simp only [z3, z4, go_sem, *])
 refine Z7 rfl (fun zn zN zenv zAs => ∃ (i : Nat) (cur : Option (Value × AV)) (don rem : List House), zn = (hs.length) - i ∧ i ≤ (hs.length) ∧ (ThP hs don rem i) ∧ zN = 36 ∧ zenv = [(5, .mp 0), (13, .ptr 1 0), (1, .fmap (ks.map House.key) (ks.map (zNY g)))] ∧ zAs = [.mapo (don.map House.key) (don.map (zNY (V9 f g))), .iter cur (rem.map House.key) (rem.map (zNY f))]) (hs.length) ⟨[some 0, some 1], [], _, _, _, (by (simp only [Weak, go_sem, List.map_append, List.map_set, *] <;> (try simp (disch := omega) only [y8]) <;> (try simp) <;> (try omega))), 0, none, [], hs, (by simp), (by simp), (by exact ⟨by omega, by simp⟩), rfl, rfl, rfl⟩ ?_; rintro _ _ _ _ ⟨i, cur, don, rem, rfl, hi, hP, rfl, rfl, rfl⟩
 refine O7 rfl ?_
 refine E3 (o := 1) rfl rfl rfl rfl rfl rfl rfl cur (rem.map House.key) (rem.map (zNY f)) (by simp only [go_sem]) (by simp only [go_sem]) (show (14 : Nat) < 36 by decide) (show (15 : Nat) < 36 by decide) (fun hk0 _ => ?_) (fun r hr1 hr2 => ?_)
 ·obtain rfl : rem = [] := by simpa using hk0
  simp only [go_sem]
  repeat' (first | (refine Qr rfl ?_; try intro _ hK; try simp only [go_sem, *]) | refine Qh rfl ?_ | refine Qd rfl (by kernel_rfl) ?_ | (refine Qc rfl rfl ?_ ?_ <;> (intro hb; have hc := hb; try simp only [go_sem] at hc)) | refine z6 rfl ?_ | (refine Qb ?_ ?_; focus kernel_rfl) | ((with_reducible apply And.intro); focus omega) | (refine z5 hK ?_; clear hK; simp only [go_sem, *]) | simp only [z3, z4, go_sem, *])
  obtain ⟨_, p0⟩ := hP
  rw [List.append_nil] at p0
  have hpm : MPerm (hs.map House.key) (hs.map (zNY (V9 f g))) (don.map House.key) (don.map (zNY (V9 f g))) := by
   refine .inr ⟨by simp, by simp, ?_⟩
   rw [List.zip_map', List.zip_map']
   exact (p0.map _).symm
  refine ⟨[_], [], [0], ⟨rfl, trivial⟩, ?_⟩
  simp only [go_sem, *]
 ·obtain ⟨hr, hrk, hrx⟩ : ∃ hr : r < rem.length, (rem.map House.key)[r] = (rem[r]).key ∧ (rem.map (zNY f))[r] = .list ((f rem[r]).map House.enc) := ⟨by simpa using hr1, by simp, by simp [zNY]⟩
  rw [hrk, hrx, ← Y0, ← Y0]
  obtain ⟨hlen0, hperm⟩ := hP
  have hq : (rem[r] :: rem.eraseIdx r).Perm rem := (B5 rem r hr).symm
  have hel : (rem.eraseIdx r).length = rem.length - 1 := List.length_eraseIdx_of_lt hr
  clear hrk hrx
  generalize rem.eraseIdx r = rem' at *
  generalize rem[r] = h at *
  have hq2 : ((don ++ [h]) ++ rem').Perm hs := by
   rw [List.append_assoc]
   exact (List.Perm.append_left don hq).trans hperm
  have hmh : h ∈ hs := hq2.mem_iff.1 (by simp)
  have hmd : ∀ k, k ∈ don → k ∈ hs := fun k hk => hq2.mem_iff.1 (by simp [hk])
  have hnd2 := hq2.nodup_iff.2 hn
  have hnot : h ∉ don := fun hd => by
   rw [List.append_assoc] at hnd2
   exact (List.nodup_append.1 hnd2).2.2 h hd h (by simp) rfl
  have hil : i < hs.length := by omega
  have hfh := hfl h hmh
  have hkh := hk h hmh
  have hndh := hnd h hmh
  have h12h := h12 h hmh
  clear hq hperm hnd2
  simp only [go_sem]
  repeat' (first | (refine Qr rfl ?_; try intro _ hK; try simp only [go_sem, *]) | refine Qh rfl ?_ | refine Qd rfl (by kernel_rfl) ?_ | (refine Qc rfl rfl ?_ ?_ <;> (intro hb; have hc := hb; try simp only [go_sem] at hc)) | refine z6 rfl ?_ | (refine Qb ?_ ?_; focus kernel_rfl) | ((with_reducible apply And.intro); focus omega) | (refine z5 hK ?_; clear hK; simp only [go_sem, *]) | simp only [z3, z4, go_sem, *])
  refine v9 rfl ((f h).length) (fun j (acc : List House) => acc ++ ((f h).drop j).flatMap g = (f h).flatMap g) 36 (fun j acc => [(21, iV j), (20, iV (f h).length), (19, .list ((f h).map House.enc)), (8, .own 3 3 0 acc.length), (6, .ptr 2 0), (5, .mp 0), (13, .ptr 1 0), (1, .fmap (ks.map House.key) (ks.map (zNY g)))]) (fun j acc => [.mapo (don.map House.key) (don.map (zNY (V9 f g))), .iter (some (h.key, .list ((f h).map House.enc))) (rem'.map House.key) (rem'.map (zNY f)), .box [iV h.street, iV h.plate.number, iV h.plate.letter], .row 3 (acc.map House.enc)]) [some 0, some 1, some 2, none] [] ([]) (by simp) ?_; intro j acc hj hQ
  have hql := congrArg List.length hQ
  simp only [List.length_append] at hql
  by_cases hj : j < (f h).length
  ·have hdj := v3 hj
   rw [hdj, List.flatMap_cons] at hQ hql
   simp only [List.length_append] at hql
   have hxk := hkh _ (w5 hj)
   have hxw := kw _ hxk
   have hgx := hgl _ hxk
   clear hdj
   repeat' (first | (refine Qr rfl ?_; try intro _ hK; try simp only [go_sem, *]) | refine Qh rfl ?_ | refine Qd rfl (by kernel_rfl) ?_ | (refine Qc rfl rfl ?_ ?_ <;> (intro hb; have hc := hb; try simp only [go_sem] at hc)) | refine z6 rfl ?_ | (refine Qb ?_ ?_; focus kernel_rfl) | ((with_reducible apply And.intro); focus omega) | (refine z5 hK ?_; clear hK; simp only [go_sem, *]) | simp only [z3, z4, go_sem, *])
   refine W5 (h := (f h).getD j default) (hs := ks) (F := zNY g) kw hxw ?_
   rw [if_pos hxk, zNY]
   repeat' (first | (refine Qr rfl ?_; try intro _ hK; try simp only [go_sem, *]) | refine Qh rfl ?_ | refine Qd rfl (by kernel_rfl) ?_ | (refine Qc rfl rfl ?_ ?_ <;> (intro hb; have hc := hb; try simp only [go_sem] at hc)) | refine z6 rfl ?_ | (refine Qb ?_ ?_; focus kernel_rfl) | ((with_reducible apply And.intro); focus omega) | (refine z5 hK ?_; clear hK; simp only [go_sem, *]) | simp only [z3, z4, go_sem, *])
   refine ⟨fun y hy => ?_, fun y hy => ?_, by omega, ?_⟩
   ·obtain ⟨z, _, rfl⟩ := List.mem_map.1 hy
    simp [go_sem]
   ·obtain ⟨z, _, rfl⟩ := List.mem_map.1 hy
    simp [go_sem]
   ·repeat' (first | (refine Qr rfl ?_; try intro _ hK; try simp only [go_sem, *]) | refine Qh rfl ?_ | refine Qd rfl (by kernel_rfl) ?_ | (refine Qc rfl rfl ?_ ?_ <;> (intro hb; have hc := hb; try simp only [go_sem] at hc)) | refine z6 rfl ?_ | (refine Qb ?_ ?_; focus kernel_rfl) | ((with_reducible apply And.intro); focus omega) | (refine z5 hK ?_; clear hK; simp only [go_sem, *]) | simp only [z3, z4, go_sem, *])
    exact x9 (i' := j + 1) [some 0, some 1, some 2, some 5] [] (acc ++ g ((f h).getD j default)) (by rw [← hQ]; simp)
  ·rw [u0 (by omega), List.flatMap_nil, List.append_nil] at hQ
   subst hQ
   repeat' (first | (refine Qr rfl ?_; try intro _ hK; try simp only [go_sem, *]) | refine Qh rfl ?_ | refine Qd rfl (by kernel_rfl) ?_ | (refine Qc rfl rfl ?_ ?_ <;> (intro hb; have hc := hb; try simp only [go_sem] at hc)) | refine z6 rfl ?_ | (refine Qb ?_ ?_; focus kernel_rfl) | ((with_reducible apply And.intro); focus omega) | (refine z5 hK ?_; clear hK; simp only [go_sem, *]) | simp only [z3, z4, go_sem, *])
   refine o3 (gone := [3]) (zDI ((f h).flatMap g) hndh h12h) (by simp only [go_sem, *]; simp [List.take_of_length_le]) (by simp only [go_sem, *]; simp) (by simp only [go_sem]) (by simp) (by simp) ?_
   simp only [go_sem, w6]
   repeat' (first | (refine Qr rfl ?_; try intro _ hK; try simp only [go_sem, *]) | refine Qh rfl ?_ | refine Qd rfl (by kernel_rfl) ?_ | (refine Qc rfl rfl ?_ ?_ <;> (intro hb; have hc := hb; try simp only [go_sem] at hc)) | refine z6 rfl ?_ | (refine Qb ?_ ?_; focus kernel_rfl) | ((with_reducible apply And.intro); focus omega) | (refine z5 hK ?_; clear hK; simp only [go_sem, *]) | simp only [z3, z4, go_sem, *])
   refine zCS (h := h) (hs := don) (xs := don.map (zNY (V9 f g))) (by simp only [go_sem, *]) (fun k hk => hw k (hmd k hk)) (hw h hmh) hnot (by simp only [go_sem, *]) (by simp only [go_sem, *]) ?_
   simp only [go_sem, *]
   repeat' (first | (refine Qr rfl ?_; try intro _ hK; try simp only [go_sem, *]) | refine Qh rfl ?_ | refine Qd rfl (by kernel_rfl) ?_ | (refine Qc rfl rfl ?_ ?_ <;> (intro hb; have hc := hb; try simp only [go_sem] at hc)) | refine z6 rfl ?_ | (refine Qb ?_ ?_; focus kernel_rfl) | ((with_reducible apply And.intro); focus omega) | (refine z5 hK ?_; clear hK; simp only [go_sem, *]) | simp only [z3, z4, go_sem, *])
   have hM : zNY (V9 f g) h = .list ((p5 ((f h).flatMap g)).map House.enc) := rfl
   refine ⟨_, (by omega), [some 0, some 1], [], _, _, _, (by (simp only [Weak, go_sem, List.map_append, List.map_set, *] <;> (try simp (disch := omega) only [y8]) <;> (try simp) <;> (try omega))), i + 1, (some (h.key, .list ((f h).map House.enc))), don ++ [h], rem', rfl, (by omega), (by exact ⟨by omega, hq2⟩), rfl, rfl, rfl⟩
end Go.Abs

namespace Go.Abs
open Go Go.Proofs Tryz
attribute [local irreducible] q8 Hold y4
def a7 : List Change → Int
 | [] => 0
 | c :: r => if zNX c.kind 1 7 = true then a7 r else 8
def Z9 : List (List Change) → Int
 | [] => 0
 | w :: r => if w.length = 0 then 7 else if 3 < w.length then 6 else if a7 w = 0 then Z9 r else 8
def a9 (p : zNU) : List Fact → Int
 | [] => 0
 | f :: r => if f.src ∈ q6 p ∧ zNX f.dst.street 0 (p.length - 1) = true then (if f.dst.plate.ok = true then a9 p r else 1) else 3
def H1 (s : Story) : Int := if 4 < s.facts.length then 6 else a9 s.first s.facts
def V6 (s : Story) (l : List (List Change)) : Int := if Z9 l = 0 then H1 s else Z9 l
def j5 (s : Story) : Int := if check s.first = 0 then if 3 < s.steps.length then 6 else V6 s s.steps else check s.first
def o5 (s : Story) : AObj := .box [.list (s.first.map q9), .list (s.steps.map Q2), .list (s.facts.map Fact.enc), .list ((q6 s.first).map House.enc)]
attribute [go_sem] o5
abbrev zOr : AV := .raw (.pointer none)
def G0 (G : Int) (R : AV) (out : List AObj) (s : Story) : Prop := (G = 0 → R = .tup [.ptr 0 0, iV 0] ∧ out = [o5 s]) ∧ (G ≠ 0 → R = .tup [zOr, iV G] ∧ out = [])
theorem zJw {l : List Change} {i : Nat} (h : i < l.length) : a7 (l.drop i) = if zNX (l.getD i default).kind 1 7 = true then a7 (l.drop (i + 1)) else 8 := by
 rw [v3 h, a7]
theorem zJc {l : List (List Change)} {i : Nat} (h : i < l.length) : Z9 (l.drop i) = if (l.getD i default).length = 0 then 7 else if 3 < (l.getD i default).length then 6 else if a7 (l.getD i default) = 0 then Z9 (l.drop (i + 1)) else 8 := by
 rw [v3 h, Z9]
theorem zFK {p : zNU} {l : List Fact} {i : Nat} (h : i < l.length) : a9 p (l.drop i) = if (l.getD i default).src ∈ q6 p ∧ zNX (l.getD i default).dst.street 0 (p.length - 1) = true then (if (l.getD i default).dst.plate.ok = true then a9 p (l.drop (i + 1)) else 1) else 3 := by
 rw [v3 h, a9]
theorem zIx (s : Story) (hst : s.steps.length ≤ 4294967296) (hwl : ∀ w, w ∈ s.steps → w.length ≤ 4294967296) (hfl : s.facts.length ≤ 4294967296) (hpl : s.first.length ≤ 4294967296) (R : AV) (out : List AObj) (G : Int) (hG : j5 s = G) (hR : G0 G R out s) :
  zNV prog 91 [s.enc] [] R out := by
 have sc := i9 s.first hpl
 by_cases hc0 : check s.first = 0
 ·rw [j5, if_pos hc0] at hG
  have v := (Q1 s.first).1 hc0
  rw [hc0] at sc
  clear hc0
  by_cases h3 : 3 < s.steps.length
  ·have h3i : (s.steps.length : Int) > 3 := by omega
   rw [if_pos h3] at hG
   subst hG
   obtain ⟨rfl, rfl⟩ := hR.2 (by decide)
   clear hR
   refine z9 func91 rfl (fun E hE => ?_); simp only [go_sem, ntmps91]
   repeat' (first | (refine Qr rfl ?_; try intro _ hK; try simp only [go_sem, *]) | (refine Qi rfl rfl rfl rfl ?_ ?_ <;> (intro hb; (try intro _ hK); have hc := hb; try simp only [go_sem] at hc; simp only [go_sem, *])) | refine Qh rfl ?_ | refine Qd rfl (by kernel_rfl) ?_ | (refine Qc rfl rfl ?_ ?_ <;> (intro hb; have hc := hb; try simp only [go_sem] at hc)) | refine z6 rfl ?_ | (refine Qb ?_ ?_; focus kernel_rfl) | (refine z8 (sc) ?_; simp only [go_sem, *]) | ((with_reducible apply And.intro); focus omega) | (refine z5 hK ?_; clear hK; simp only [go_sem, *]) | simp only [z3, z4, go_sem, *])
   all_goals try contradiction
   all_goals (refine ⟨[_, _], [], [], ⟨rfl, rfl, trivial⟩, ?_⟩; simp only [go_sem, *])
  ·have h3i : ¬ (s.steps.length : Int) > 3 := by omega
   rw [if_neg h3] at hG
   refine z9 func91 rfl (fun E hE => ?_); simp only [go_sem, ntmps91]
   repeat' (first | (refine Qr rfl ?_; try intro _ hK; try simp only [go_sem, *]) | (refine Qi rfl rfl rfl rfl ?_ ?_ <;> (intro hb; (try intro _ hK); have hc := hb; try simp only [go_sem] at hc; simp only [go_sem, *])) | refine Qh rfl ?_ | refine Qd rfl (by kernel_rfl) ?_ | (refine Qc rfl rfl ?_ ?_ <;> (intro hb; have hc := hb; try simp only [go_sem] at hc)) | refine z6 rfl ?_ | (refine Qb ?_ ?_; focus kernel_rfl) | (refine z8 (sc) ?_; simp only [go_sem, *]) | ((with_reducible apply And.intro); focus omega) | (refine z5 hK ?_; clear hK; simp only [go_sem, *]) | simp only [z3, z4, go_sem, *])
   all_goals try contradiction
   refine v5 rfl (s.steps.length) (fun i => V6 s (s.steps.drop i) = G) 96 (fun i => [(25, iV i), (24, iV s.steps.length), (23, .list (s.steps.map Q2)), (1, .ptr 0 0)]) (fun i => [.box [.list (s.first.map q9), .list (s.steps.map Q2), .list (s.facts.map Fact.enc)]]) [some 0] [] (by exact hG) ?_; intro i hi hP
   clear hG
   by_cases hi2 : i < s.steps.length
   ·unfold V6 at hP
    rw [zJc hi2] at hP
    have hwi := hwl _ (w5 hi2)
    generalize hw : s.steps.getD i default = w at *
    by_cases hw0 : w.length = 0
    ·have hw0i : (w.length : Int) = 0 := by omega
     rw [if_pos hw0, if_neg (by decide)] at hP
     subst hP
     obtain ⟨rfl, rfl⟩ := hR.2 (by decide)
     clear hR
     repeat' (first | (refine Qr rfl ?_; try intro _ hK; try simp only [go_sem, *]) | (refine Qi rfl rfl rfl rfl ?_ ?_ <;> (intro hb; (try intro _ hK); have hc := hb; try simp only [go_sem] at hc; simp only [go_sem, *])) | refine Qh rfl ?_ | refine Qd rfl (by kernel_rfl) ?_ | (refine Qc rfl rfl ?_ ?_ <;> (intro hb; have hc := hb; try simp only [go_sem] at hc)) | refine z6 rfl ?_ | (refine Qb ?_ ?_; focus kernel_rfl) | ((with_reducible apply And.intro); focus omega) | (refine z5 hK ?_; clear hK; simp only [go_sem, *]) | simp only [z3, z4, go_sem, *])
     all_goals try contradiction
     (refine ⟨[_, _], [], [], ⟨rfl, rfl, trivial⟩, ?_⟩; simp only [go_sem, *])
    rw [if_neg hw0] at hP
    have hw0i : ¬ (w.length : Int) = 0 := by omega
    by_cases hw3 : 3 < w.length
    ·have hw3i : (w.length : Int) > 3 := by omega
     rw [if_pos hw3, if_neg (by decide)] at hP
     subst hP
     obtain ⟨rfl, rfl⟩ := hR.2 (by decide)
     clear hR
     repeat' (first | (refine Qr rfl ?_; try intro _ hK; try simp only [go_sem, *]) | (refine Qi rfl rfl rfl rfl ?_ ?_ <;> (intro hb; (try intro _ hK); have hc := hb; try simp only [go_sem] at hc; simp only [go_sem, *])) | refine Qh rfl ?_ | refine Qd rfl (by kernel_rfl) ?_ | (refine Qc rfl rfl ?_ ?_ <;> (intro hb; have hc := hb; try simp only [go_sem] at hc)) | refine z6 rfl ?_ | (refine Qb ?_ ?_; focus kernel_rfl) | ((with_reducible apply And.intro); focus omega) | (refine z5 hK ?_; clear hK; simp only [go_sem, *]) | simp only [z3, z4, go_sem, *])
     all_goals try contradiction
     (refine ⟨[_, _], [], [], ⟨rfl, rfl, trivial⟩, ?_⟩; simp only [go_sem, *])
    rw [if_neg hw3] at hP
    have hw3i : ¬ (w.length : Int) > 3 := by omega
    have hP0 : (if a7 (w.drop 0) = 0 then V6 s (s.steps.drop (i + 1)) else 8) = G := by
     rw [← hP, List.drop_zero]
     unfold V6
     split <;> rfl
    clear hP
    repeat' (first | (refine Qr rfl ?_; try intro _ hK; try simp only [go_sem, *]) | (refine Qi rfl rfl rfl rfl ?_ ?_ <;> (intro hb; (try intro _ hK); have hc := hb; try simp only [go_sem] at hc; simp only [go_sem, *])) | refine Qh rfl ?_ | refine Qd rfl (by kernel_rfl) ?_ | (refine Qc rfl rfl ?_ ?_ <;> (intro hb; have hc := hb; try simp only [go_sem] at hc)) | refine z6 rfl ?_ | (refine Qb ?_ ?_; focus kernel_rfl) | ((with_reducible apply And.intro); focus omega) | (refine z5 hK ?_; clear hK; simp only [go_sem, *]) | simp only [z3, z4, go_sem, *])
    all_goals try contradiction
    refine v5 rfl (w.length) (fun j => (if a7 (w.drop j) = 0 then V6 s (s.steps.drop (i + 1)) else 8) = G) 96 (fun j => [(40, iV j), (39, iV w.length), (38, .list (w.map Change.enc)), (25, iV i), (24, iV s.steps.length), (23, .list (s.steps.map Q2)), (1, .ptr 0 0)]) (fun j => [.box [.list (s.first.map q9), .list (s.steps.map Q2), .list (s.facts.map Fact.enc)]]) [some 0] [] (by exact hP0) ?_; intro j hj hQ
    by_cases hj : j < w.length
    ·rw [zJw hj] at hQ
     have sb := t9 (w.getD j default).kind 1 7
     by_cases hbt : zNX (w.getD j default).kind 1 7 = true
     ·rw [if_pos hbt] at hQ
      rw [hbt] at sb
      repeat' (first | (refine Qr rfl ?_; try intro _ hK; try simp only [go_sem, *]) | (refine Qi rfl rfl rfl rfl ?_ ?_ <;> (intro hb; (try intro _ hK); have hc := hb; try simp only [go_sem] at hc; simp only [go_sem, *])) | refine Qh rfl ?_ | refine Qd rfl (by kernel_rfl) ?_ | (refine Qc rfl rfl ?_ ?_ <;> (intro hb; have hc := hb; try simp only [go_sem] at hc)) | refine z6 rfl ?_ | (refine Qb ?_ ?_; focus kernel_rfl) | (refine z8 (sb) ?_; simp only [go_sem, *]) | ((with_reducible apply And.intro); focus omega) | (refine z5 hK ?_; clear hK; simp only [go_sem, *]) | simp only [z3, z4, go_sem, *])
      all_goals try contradiction
      exact v4 (i' := j + 1) [some 0] [] (by exact hQ)
     ·rw [if_neg hbt, if_neg (by decide)] at hQ
      rw [Bool.not_eq_true] at hbt
      rw [hbt] at sb
      subst hQ
      obtain ⟨rfl, rfl⟩ := hR.2 (by decide)
      clear hR
      repeat' (first | (refine Qr rfl ?_; try intro _ hK; try simp only [go_sem, *]) | (refine Qi rfl rfl rfl rfl ?_ ?_ <;> (intro hb; (try intro _ hK); have hc := hb; try simp only [go_sem] at hc; simp only [go_sem, *])) | refine Qh rfl ?_ | refine Qd rfl (by kernel_rfl) ?_ | (refine Qc rfl rfl ?_ ?_ <;> (intro hb; have hc := hb; try simp only [go_sem] at hc)) | refine z6 rfl ?_ | (refine Qb ?_ ?_; focus kernel_rfl) | (refine z8 (sb) ?_; simp only [go_sem, *]) | ((with_reducible apply And.intro); focus omega) | (refine z5 hK ?_; clear hK; simp only [go_sem, *]) | simp only [z3, z4, go_sem, *])
      all_goals try contradiction
      (refine ⟨[_, _], [], [], ⟨rfl, rfl, trivial⟩, ?_⟩; simp only [go_sem, *])
    ·rw [u0 (by omega), a7, if_pos rfl] at hQ
     repeat' (first | (refine Qr rfl ?_; try intro _ hK; try simp only [go_sem, *]) | (refine Qi rfl rfl rfl rfl ?_ ?_ <;> (intro hb; (try intro _ hK); have hc := hb; try simp only [go_sem] at hc; simp only [go_sem, *])) | refine Qh rfl ?_ | refine Qd rfl (by kernel_rfl) ?_ | (refine Qc rfl rfl ?_ ?_ <;> (intro hb; have hc := hb; try simp only [go_sem] at hc)) | refine z6 rfl ?_ | (refine Qb ?_ ?_; focus kernel_rfl) | ((with_reducible apply And.intro); focus omega) | (refine z5 hK ?_; clear hK; simp only [go_sem, *]) | simp only [z3, z4, go_sem, *])
     exact v4 (i' := i + 1) [some 0] [] (by exact hQ)
   ·rw [u0 (by omega), V6, Z9, if_pos rfl] at hP
    by_cases hf4 : 4 < s.facts.length
    ·have hf4i : (s.facts.length : Int) > 4 := by omega
     rw [H1, if_pos hf4] at hP
     subst hP
     obtain ⟨rfl, rfl⟩ := hR.2 (by decide)
     clear hR
     repeat' (first | (refine Qr rfl ?_; try intro _ hK; try simp only [go_sem, *]) | (refine Qi rfl rfl rfl rfl ?_ ?_ <;> (intro hb; (try intro _ hK); have hc := hb; try simp only [go_sem] at hc; simp only [go_sem, *])) | refine Qh rfl ?_ | refine Qd rfl (by kernel_rfl) ?_ | (refine Qc rfl rfl ?_ ?_ <;> (intro hb; have hc := hb; try simp only [go_sem] at hc)) | refine z6 rfl ?_ | (refine Qb ?_ ?_; focus kernel_rfl) | ((with_reducible apply And.intro); focus omega) | (refine z5 hK ?_; clear hK; simp only [go_sem, *]) | simp only [z3, z4, go_sem, *])
     all_goals try contradiction
     (refine ⟨[_, _], [], [], ⟨rfl, rfl, trivial⟩, ?_⟩; simp only [go_sem, *])
    have hf4i : ¬ (s.facts.length : Int) > 4 := by omega
    rw [H1, if_neg hf4] at hP
    repeat' (first | (refine Qr rfl ?_; try intro _ hK; try simp only [go_sem, *]) | (refine Qi rfl rfl rfl rfl ?_ ?_ <;> (intro hb; (try intro _ hK); have hc := hb; try simp only [go_sem] at hc; simp only [go_sem, *])) | refine Qh rfl ?_ | refine Qd rfl (by kernel_rfl) ?_ | (refine Qc rfl rfl ?_ ?_ <;> (intro hb; have hc := hb; try simp only [go_sem] at hc)) | refine z6 rfl ?_ | (refine Qb ?_ ?_; focus kernel_rfl) | (refine u3 (zDF v) ?_; simp only [go_sem, *]) | ((with_reducible apply And.intro); focus omega) | (refine z5 hK ?_; clear hK; simp only [go_sem, *]) | simp only [z3, z4, go_sem, *])
    all_goals try contradiction
    clear hi2 hi
    refine v5 rfl (s.facts.length) (fun k => a9 s.first (s.facts.drop k) = G) 96 (fun k => [(63, iV k), (62, iV s.facts.length), (61, .list (s.facts.map Fact.enc)), (9, .ptr 1 0), (1, .ptr 0 0)]) (fun k => [.box [.list (s.first.map q9), .list (s.steps.map Q2), .list (s.facts.map Fact.enc)], .box [.list (s.first.map q9), .list (s.steps.map Q2), .list (s.facts.map Fact.enc), .list ((q6 s.first).map House.enc)]]) [some 0, some 2] [1] (by exact hP) ?_; intro k hk hQ
    by_cases hk : k < s.facts.length
    ·rw [zFK hk] at hQ
     have hcn := v.count
     have hln := v.len
     have hwp : IntKind.i64.wrap ((s.first.length : Int) - 1) = (s.first.length : Int) - 1 := wrap_i64 (by omega) (by omega)
     have s1 := zAn (q6 s.first) (s.facts.getD k default).src (by omega)
     have s2 := t9 (s.facts.getD k default).dst.street 0 ((s.first.length : Int) - 1)
     have s3 := zDK (s.facts.getD k default).dst.plate
     by_cases q1 : (s.facts.getD k default).src ∈ q6 s.first
     ·by_cases q2 : zNX (s.facts.getD k default).dst.street 0 ((s.first.length : Int) - 1) = true
      ·rw [if_pos ⟨q1, q2⟩] at hQ
       have q1' : decide ((s.facts.getD k default).src ∈ q6 s.first) = true := by simpa using q1
       rw [q1'] at s1
       rw [q2] at s2
       by_cases q3 : (s.facts.getD k default).dst.plate.ok = true
       ·rw [if_pos q3] at hQ
        rw [q3] at s3
        clear q1 q1' q2 q3
        repeat' (first | (refine Qr rfl ?_; try intro _ hK; try simp only [go_sem, *]) | (refine Qi rfl rfl rfl rfl ?_ ?_ <;> (intro hb; (try intro _ hK); have hc := hb; try simp only [go_sem] at hc; simp only [go_sem, *])) | refine Qh rfl ?_ | refine Qd rfl (by kernel_rfl) ?_ | (refine Qc rfl rfl ?_ ?_ <;> (intro hb; have hc := hb; try simp only [go_sem] at hc)) | refine z6 rfl ?_ | (refine Qb ?_ ?_; focus kernel_rfl) | ((first | refine z8 (s1) ?_ | refine z8 (s2) ?_ | refine z8 (s3) ?_); simp only [go_sem, *]) | ((with_reducible apply And.intro); focus omega) | (refine z5 hK ?_; clear hK; simp only [go_sem, *]) | simp only [z3, z4, go_sem, *])
        all_goals try contradiction
        exact v4 (i' := k + 1) [some 0, some 1] [] (by exact hQ)
       ·rw [if_neg q3] at hQ
        rw [Bool.not_eq_true] at q3
        rw [q3] at s3
        clear q1 q1' q2 q3
        subst hQ
        obtain ⟨rfl, rfl⟩ := hR.2 (by decide)
        clear hR
        repeat' (first | (refine Qr rfl ?_; try intro _ hK; try simp only [go_sem, *]) | (refine Qi rfl rfl rfl rfl ?_ ?_ <;> (intro hb; (try intro _ hK); have hc := hb; try simp only [go_sem] at hc; simp only [go_sem, *])) | refine Qh rfl ?_ | refine Qd rfl (by kernel_rfl) ?_ | (refine Qc rfl rfl ?_ ?_ <;> (intro hb; have hc := hb; try simp only [go_sem] at hc)) | refine z6 rfl ?_ | (refine Qb ?_ ?_; focus kernel_rfl) | ((first | refine z8 (s1) ?_ | refine z8 (s2) ?_ | refine z8 (s3) ?_); simp only [go_sem, *]) | ((with_reducible apply And.intro); focus omega) | (refine z5 hK ?_; clear hK; simp only [go_sem, *]) | simp only [z3, z4, go_sem, *])
        all_goals try contradiction
        (refine ⟨[_, _], [], [], ⟨rfl, rfl, trivial⟩, ?_⟩; simp only [go_sem, *])
      ·rw [if_neg (fun h => q2 h.2)] at hQ
       have q1' : decide ((s.facts.getD k default).src ∈ q6 s.first) = true := by simpa using q1
       rw [q1'] at s1
       rw [Bool.not_eq_true] at q2
       rw [q2] at s2
       clear q1 q1' q2
       subst hQ
       obtain ⟨rfl, rfl⟩ := hR.2 (by decide)
       clear hR
       repeat' (first | (refine Qr rfl ?_; try intro _ hK; try simp only [go_sem, *]) | (refine Qi rfl rfl rfl rfl ?_ ?_ <;> (intro hb; (try intro _ hK); have hc := hb; try simp only [go_sem] at hc; simp only [go_sem, *])) | refine Qh rfl ?_ | refine Qd rfl (by kernel_rfl) ?_ | (refine Qc rfl rfl ?_ ?_ <;> (intro hb; have hc := hb; try simp only [go_sem] at hc)) | refine z6 rfl ?_ | (refine Qb ?_ ?_; focus kernel_rfl) | ((first | refine z8 (s1) ?_ | refine z8 (s2) ?_ | refine z8 (s3) ?_); simp only [go_sem, *]) | ((with_reducible apply And.intro); focus omega) | (refine z5 hK ?_; clear hK; simp only [go_sem, *]) | simp only [z3, z4, go_sem, *])
       all_goals try contradiction
       (refine ⟨[_, _], [], [], ⟨rfl, rfl, trivial⟩, ?_⟩; simp only [go_sem, *])
     ·rw [if_neg (fun h => q1 h.1)] at hQ
      have q1' : decide ((s.facts.getD k default).src ∈ q6 s.first) = false := by simpa using q1
      rw [q1'] at s1
      clear q1 q1'
      subst hQ
      obtain ⟨rfl, rfl⟩ := hR.2 (by decide)
      clear hR
      repeat' (first | (refine Qr rfl ?_; try intro _ hK; try simp only [go_sem, *]) | (refine Qi rfl rfl rfl rfl ?_ ?_ <;> (intro hb; (try intro _ hK); have hc := hb; try simp only [go_sem] at hc; simp only [go_sem, *])) | refine Qh rfl ?_ | refine Qd rfl (by kernel_rfl) ?_ | (refine Qc rfl rfl ?_ ?_ <;> (intro hb; have hc := hb; try simp only [go_sem] at hc)) | refine z6 rfl ?_ | (refine Qb ?_ ?_; focus kernel_rfl) | ((first | refine z8 (s1) ?_ | refine z8 (s2) ?_ | refine z8 (s3) ?_); simp only [go_sem, *]) | ((with_reducible apply And.intro); focus omega) | (refine z5 hK ?_; clear hK; simp only [go_sem, *]) | simp only [z3, z4, go_sem, *])
      all_goals try contradiction
      (refine ⟨[_, _], [], [], ⟨rfl, rfl, trivial⟩, ?_⟩; simp only [go_sem, *])
    ·rw [u0 (by omega), a9] at hQ
     obtain ⟨rfl, rfl⟩ := hR.1 hQ.symm
     clear hR
     repeat' (first | (refine Qr rfl ?_; try intro _ hK; try simp only [go_sem, *]) | (refine Qi rfl rfl rfl rfl ?_ ?_ <;> (intro hb; (try intro _ hK); have hc := hb; try simp only [go_sem] at hc; simp only [go_sem, *])) | refine Qh rfl ?_ | refine Qd rfl (by kernel_rfl) ?_ | (refine Qc rfl rfl ?_ ?_ <;> (intro hb; have hc := hb; try simp only [go_sem] at hc)) | refine z6 rfl ?_ | (refine Qb ?_ ?_; focus kernel_rfl) | ((with_reducible apply And.intro); focus omega) | (refine z5 hK ?_; clear hK; simp only [go_sem, *]) | simp only [z3, z4, go_sem, *])
     refine ⟨[_, _], [some 1], [], ⟨rfl, rfl, trivial⟩, ?_⟩
     simp only [go_sem, *]
 ·have e : (check s.first == 0) = false := by simpa using hc0
  have e2 : (check s.first != 0) = true := by simpa using hc0
  rw [j5, if_neg hc0] at hG
  obtain ⟨rfl, rfl⟩ := hR.2 (by rw [← hG]; exact hc0)
  subst hG
  clear hR hc0
  generalize check s.first = k at *
  refine z9 func91 rfl (fun E hE => ?_); simp only [go_sem, ntmps91]
  repeat' (first | (refine Qr rfl ?_; try intro _ hK; try simp only [go_sem, *]) | (refine Qi rfl rfl rfl rfl ?_ ?_ <;> (intro hb; (try intro _ hK); have hc := hb; try simp only [go_sem] at hc; simp only [go_sem, *])) | refine Qh rfl ?_ | refine Qd rfl (by kernel_rfl) ?_ | (refine Qc rfl rfl ?_ ?_ <;> (intro hb; have hc := hb; try simp only [go_sem] at hc)) | refine z6 rfl ?_ | (refine Qb ?_ ?_; focus kernel_rfl) | (refine z8 (sc) ?_; simp only [go_sem, *]) | ((with_reducible apply And.intro); focus omega) | (refine z5 hK ?_; clear hK; simp only [go_sem, *]) | simp only [z3, z4, go_sem, *])
  all_goals try contradiction
  all_goals (refine ⟨[_, _], [], [], ⟨rfl, rfl, trivial⟩, ?_⟩; simp only [go_sem, *])
end Go.Abs

namespace Go.Abs
open Go Go.Proofs Tryz
attribute [local irreducible] q8 Hold y4
structure Truth where
 ways : List Int
 fin : zNU
 now : House → List House
@[reducible] def Truth.enc (p : zNU) (t : Truth) : AV := .agg [.list (t.ways.map iV), .list (t.fin.map q9), .fmap (y7 p) (y6 p t.now)]
attribute [go_sem] Truth.enc
def Q3 (l : List Fact) (t : Truth) : Bool := l.all fun f => decide (f.dst ∈ t.now f.src)
theorem zFN {l : List Fact} {t : Truth} {i : Nat} (h : i < l.length) : Q3 (l.drop i) t = (decide ((l.getD i default).dst ∈ t.now (l.getD i default).src) && Q3 (l.drop (i + 1)) t) := by
 rw [v3 h]; simp [Q3]
theorem zI4 (s : Story) (t : Truth) (v : Valid s.first) (hf : s.facts.length ≤ 1000) (hsrc : ∀ f, f ∈ s.facts → f.src ∈ q6 s.first) (hnl : ∀ h, h ∈ q6 s.first → (t.now h).length ≤ 1000) (b : Bool) (hb0 : Q3 (s.facts.drop 0) t = b) :
  zNV prog 116 [.ptr 0 0, t.enc s.first] [o5 s] (bV b) [o5 s] := by
 have hw := v.wf
 refine z9 func116 rfl (fun E hE => ?_); simp only [go_sem, ntmps116]
 repeat' (first | (refine Qr rfl ?_; try intro _ hK; try simp only [go_sem, *]) | refine Qh rfl ?_ | refine Qd rfl (by kernel_rfl) ?_ | (refine Qc rfl rfl ?_ ?_ <;> (intro hb; have hc := hb; try simp only [go_sem] at hc)) | refine z6 rfl ?_ | (refine Qb ?_ ?_; focus kernel_rfl) | ((with_reducible apply And.intro); focus omega) | (refine z5 hK ?_; clear hK; simp only [go_sem, *]) | simp only [z3, z4, go_sem, *])
 refine v5 rfl (s.facts.length) (fun i => Q3 (s.facts.drop i) t = b) 27 (fun i => [(13, iV i), (12, iV s.facts.length), (11, .list (s.facts.map Fact.enc)), (3, .ptr 1 0)]) (fun i => [o5 s, .box [.list (t.ways.map iV), .list (t.fin.map q9), .fmap (y7 s.first) (y6 s.first t.now)]]) [some 0, some 1] [] (by exact hb0) ?_; intro i hi hP
 by_cases hi2 : i < s.facts.length
 ·rw [zFN hi2] at hP
  have hm := hsrc _ (w5 hi2)
  have hl := hnl _ hm
  have hwf := hw _ hm
  have sc := zAn (t.now (s.facts.getD i default).src) (s.facts.getD i default).dst (by omega)
  by_cases q : (s.facts.getD i default).dst ∈ t.now (s.facts.getD i default).src
  ·have q' : decide ((s.facts.getD i default).dst ∈ t.now (s.facts.getD i default).src) = true := by simpa using q
   rw [q', Bool.true_and] at hP
   rw [q'] at sc
   clear q q'
   repeat' (first | (refine Qr rfl ?_; try intro _ hK; try simp only [go_sem, *]) | refine Qh rfl ?_ | refine Qd rfl (by kernel_rfl) ?_ | (refine Qc rfl rfl ?_ ?_ <;> (intro hb; have hc := hb; try simp only [go_sem] at hc)) | refine z6 rfl ?_ | (refine Qb ?_ ?_; focus kernel_rfl) | ((with_reducible apply And.intro); focus omega) | (refine z5 hK ?_; clear hK; simp only [go_sem, *]) | simp only [z3, z4, go_sem, *])
   refine W5 (h := (s.facts.getD i default).src) (hs := q6 s.first) (F := zNY t.now) hw hwf ?_
   rw [if_pos hm, zNY]
   repeat' (first | (refine Qr rfl ?_; try intro _ hK; try simp only [go_sem, *]) | refine Qh rfl ?_ | refine Qd rfl (by kernel_rfl) ?_ | (refine Qc rfl rfl ?_ ?_ <;> (intro hb; have hc := hb; try simp only [go_sem] at hc)) | refine z6 rfl ?_ | (refine Qb ?_ ?_; focus kernel_rfl) | (refine z8 (sc) ?_; simp only [go_sem, *]) | ((with_reducible apply And.intro); focus omega) | (refine z5 hK ?_; clear hK; simp only [go_sem, *]) | simp only [z3, z4, go_sem, *])
   all_goals try contradiction
   exact v4 (i' := i + 1) [some 0, some 1] [] (by exact hP)
  ·have q' : decide ((s.facts.getD i default).dst ∈ t.now (s.facts.getD i default).src) = false := by simpa using q
   rw [q', Bool.false_and] at hP
   rw [q'] at sc
   clear q q'
   subst hP
   repeat' (first | (refine Qr rfl ?_; try intro _ hK; try simp only [go_sem, *]) | refine Qh rfl ?_ | refine Qd rfl (by kernel_rfl) ?_ | (refine Qc rfl rfl ?_ ?_ <;> (intro hb; have hc := hb; try simp only [go_sem] at hc)) | refine z6 rfl ?_ | (refine Qb ?_ ?_; focus kernel_rfl) | ((with_reducible apply And.intro); focus omega) | (refine z5 hK ?_; clear hK; simp only [go_sem, *]) | simp only [z3, z4, go_sem, *])
   refine W5 (h := (s.facts.getD i default).src) (hs := q6 s.first) (F := zNY t.now) hw hwf ?_
   rw [if_pos hm, zNY]
   repeat' (first | (refine Qr rfl ?_; try intro _ hK; try simp only [go_sem, *]) | refine Qh rfl ?_ | refine Qd rfl (by kernel_rfl) ?_ | (refine Qc rfl rfl ?_ ?_ <;> (intro hb; have hc := hb; try simp only [go_sem] at hc)) | refine z6 rfl ?_ | (refine Qb ?_ ?_; focus kernel_rfl) | (refine z8 (sc) ?_; simp only [go_sem, *]) | ((with_reducible apply And.intro); focus omega) | (refine z5 hK ?_; clear hK; simp only [go_sem, *]) | simp only [z3, z4, go_sem, *])
   all_goals try contradiction
   refine ⟨[_], [some 0], [], ⟨rfl, trivial⟩, ?_⟩
   simp only [go_sem, *]
 ·rw [u0 (by omega)] at hP
  subst hP
  repeat' (first | (refine Qr rfl ?_; try intro _ hK; try simp only [go_sem, *]) | refine Qh rfl ?_ | refine Qd rfl (by kernel_rfl) ?_ | (refine Qc rfl rfl ?_ ?_ <;> (intro hb; have hc := hb; try simp only [go_sem] at hc)) | refine z6 rfl ?_ | (refine Qb ?_ ?_; focus kernel_rfl) | ((with_reducible apply And.intro); focus omega) | (refine z5 hK ?_; clear hK; simp only [go_sem, *]) | simp only [z3, z4, go_sem, *])
  refine ⟨[_], [some 0], [], ⟨rfl, trivial⟩, ?_⟩
  simp only [go_sem, *]
  simp [Q3]
end Go.Abs

namespace Go.Abs
open Go
instance : Inhabited Truth := ⟨⟨[], [], fun _ => []⟩⟩
def r5 (s : Story) (k : Nat) : List Change := s.steps.getD k default
def f3 (t : Truth) (c : Change) (i : Nat) : Truth := ⟨t.ways ++ [(i : Int)], u6 t.fin c, V9 t.now (mv t.fin c)⟩
def p8 (s : Story) : Nat → Truth → List Truth
 | 0, t => if Q3 s.facts t = true then [t] else []
 | n + 1, t => (List.range' 0 (r5 s t.ways.length).length).flatMap fun i => if can t.fin ((r5 s t.ways.length).getD i default) = 0 then p8 s n (f3 t ((r5 s t.ways.length).getD i default) i) else []
def j8 (s : Story) (n : Nat) (t : Truth) (i : Nat) : List Truth :=
 (List.range' i ((r5 s t.ways.length).length - i)).flatMap fun i => if can t.fin ((r5 s t.ways.length).getD i default) = 0 then p8 s n (f3 t ((r5 s t.ways.length).getD i default) i) else []
theorem A9 {s : Story} {t : Truth} : p8 s 0 t = if Q3 s.facts t = true then [t] else [] := by rw [p8]
theorem zF3 {s : Story} {n : Nat} {t : Truth} : p8 s (n + 1) t = j8 s n t 0 := by rw [p8, j8, Nat.sub_zero]
theorem zBs {s : Story} {n i : Nat} {t : Truth} (h : i < (r5 s t.ways.length).length) :
  j8 s n t i = (if can t.fin ((r5 s t.ways.length).getD i default) = 0 then p8 s n (f3 t ((r5 s t.ways.length).getD i default) i) else []) ++ j8 s n t (i + 1) := by
 unfold j8
 rw [show (r5 s t.ways.length).length - i = ((r5 s t.ways.length).length - (i + 1)) + 1 by omega, List.range'_succ, List.flatMap_cons]
theorem zF2 {s : Story} {n i : Nat} {t : Truth} (h : i < (r5 s t.ways.length).length) (hc : can t.fin ((r5 s t.ways.length).getD i default) = 0) :
  j8 s n t i = p8 s n (f3 t ((r5 s t.ways.length).getD i default) i) ++ j8 s n t (i + 1) := by rw [zBs h, if_pos hc]
theorem zF1 {s : Story} {n i : Nat} {t : Truth} (h : i < (r5 s t.ways.length).length) (hc : can t.fin ((r5 s t.ways.length).getD i default) ≠ 0) :
  j8 s n t i = j8 s n t (i + 1) := by rw [zBs h, if_neg hc, List.nil_append]
theorem zF0 {s : Story} {n i : Nat} {t : Truth} (h : (r5 s t.ways.length).length ≤ i) : j8 s n t i = [] := by
 unfold j8
 rw [show (r5 s t.ways.length).length - i = 0 by omega]; rfl
def X9 (s : Story) : Truth := ⟨[], s.first, fun h => [h]⟩
def s0 (s : Story) : List Truth := p8 s s.steps.length (X9 s)
structure TOk (s : Story) (n : Nat) (t : Truth) : Prop where
 steps : t.ways.length + n = s.steps.length
 val : Valid t.fin
 town : t.fin.length = s.first.length
 strict : ∀ h, h ∈ q6 s.first → Strict (t.now h)
 mem : ∀ h, h ∈ q6 s.first → ∀ x, x ∈ t.now h → x ∈ q6 t.fin
 len : ∀ h, h ∈ q6 s.first → (t.now h).length ≤ 2 ^ t.ways.length
theorem zBd {s : Story} (v : Valid s.first) : TOk s s.steps.length (X9 s) where
 steps := by simp [X9]
 val := v
 town := rfl
 strict := fun h _ => by simp [X9]
 mem := fun h hh x hx => by
  have : x = h := by simpa [X9] using hx
  rw [this]; exact hh
 len := fun h _ => by simp [X9]
theorem TOk.flat_nodup {s : Story} {n : Nat} {t : Truth} (o : TOk s n t) {c : Change} (f : Fit t.fin c) {h : House} (hh : h ∈ q6 s.first) : ((t.now h).flatMap (mv t.fin c)).Nodup :=
 zAW (o.strict h hh).nodup (fun a ha => zCQ f (o.mem h hh a ha)) (fun a b ha hb z hz1 hz2 => zCP o.val f (o.mem h hh a ha) (o.mem h hh b hb) hz1 hz2)
theorem flat_len {f : House → List House} (hf : ∀ h, (f h).length ≤ 2) : ∀ l : List House, (l.flatMap f).length ≤ 2 * l.length
 | [] => by simp
 | x :: r => by
  have := flat_len hf r
  have := hf x
  simp only [List.flatMap_cons, List.length_append, List.length_cons]; omega
theorem TOk.flat_len {s : Story} {n : Nat} {t : Truth} (o : TOk s n t) {c : Change} (f : Fit t.fin c) {h : House} (hh : h ∈ q6 s.first) : ((t.now h).flatMap (mv t.fin c)).length ≤ 2 * 2 ^ t.ways.length := by
 have := Go.Abs.flat_len (fun x => zAU f x) (t.now h)
 have := o.len h hh
 omega
theorem TOk.next {s : Story} {n : Nat} {t : Truth} (o : TOk s (n + 1) t) {c : Change} (hc : can t.fin c = 0) (i : Nat) : TOk s n (f3 t c i) := by
 have f := Fit.of_can hc
 have hn : ∀ h, (f3 t c i).now h = p5 ((t.now h).flatMap (mv t.fin c)) := fun _ => rfl
 refine ⟨?_, zDg o.val f, ?_, fun h hh => ?_, fun h hh x hx => ?_, fun h hh => ?_⟩
 ·have := o.steps; simp [f3]; omega
 ·have := o.town
  simp only [f3, u6, G6]; exact this
 ·rw [hn]; exact J3 _
 ·rw [hn, mem_sortH] at hx
  obtain ⟨a, ha, hx⟩ := List.mem_flatMap.1 hx
  show x ∈ q6 (u6 t.fin c)
  rw [zGV o.val f, mem_sortH]
  exact mem_flatMv.2 ⟨a, o.mem h hh a ha, hx⟩
 ·rw [hn]
  have h1 := P7 (J3 ((t.now h).flatMap (mv t.fin c))).nodup (b := (t.now h).flatMap (mv t.fin c)) (fun x hx => mem_sortH.1 hx)
  have h2 := o.flat_len f hh
  have : (f3 t c i).ways.length = t.ways.length + 1 := by simp [f3]
  rw [this, Nat.pow_succ]; omega
theorem TOk.small {s : Story} {n : Nat} {t : Truth} (o : TOk s n t) (h3 : s.steps.length ≤ 3) {h : House} (hh : h ∈ q6 s.first) : (t.now h).length ≤ 8 := by
 have h1 := o.len h hh
 have h2 : t.ways.length ≤ 3 := by have := o.steps; omega
 have : 2 ^ t.ways.length ≤ 2 ^ 3 := Nat.pow_le_pow_right (by omega) h2
 omega
theorem TOk.small2 {s : Story} {n : Nat} {t : Truth} (o : TOk s (n + 1) t) (h3 : s.steps.length ≤ 3) {c : Change} (f : Fit t.fin c) {h : House} (hh : h ∈ q6 s.first) : ((t.now h).flatMap (mv t.fin c)).length ≤ 8 := by
 have h1 := o.flat_len f hh
 have h2 : t.ways.length ≤ 2 := by have := o.steps; omega
 have : 2 ^ t.ways.length ≤ 2 ^ 2 := Nat.pow_le_pow_right (by omega) h2
 omega
theorem zBu {s : Story} : ∀ (n : Nat) {t : Truth}, TOk s n t → ∀ x, x ∈ p8 s n t → TOk s 0 x
 | 0, t, o, x, hx => by
  rw [A9] at hx
  split at hx
  ·have : x = t := by simpa using hx
   rw [this]; exact o
  ·simp at hx
 | n + 1, t, o, x, hx => by
  rw [p8] at hx
  obtain ⟨i, _, hx⟩ := List.mem_flatMap.1 hx
  split at hx
  ·rename_i hc
   exact zBu n (o.next hc i) x hx
  ·simp at hx
theorem zBt {s : Story} (hw : ∀ w, w ∈ s.steps → w.length ≤ 3) : ∀ (n : Nat) (t : Truth), (p8 s n t).length ≤ 3 ^ n
 | 0, t => by
  rw [A9]
  split <;> simp
 | n + 1, t => by
  rw [p8]
  have hl : (r5 s t.ways.length).length ≤ 3 := by
   unfold r5
   by_cases h : t.ways.length < s.steps.length
   ·exact hw _ (w5 h)
   ·have e : s.steps[t.ways.length]? = none := List.getElem?_eq_none (by omega)
    simp only [List.getD, e, Option.getD_none]; show ([] : List Change).length ≤ 3; simp
  have key : ∀ (k i : Nat) (g : Nat → List Truth), (∀ i, (g i).length ≤ 3 ^ n) → ((List.range' i k).flatMap g).length ≤ k * 3 ^ n := by
   intro k
   induction k with
   | zero => intro i g _; simp
   | succ k ih =>
    intro i g hg
    rw [List.range'_succ, List.flatMap_cons, List.length_append, Nat.succ_mul]
    have := ih (i + 1) g hg
    have := hg i
    omega
  refine Nat.le_trans (key _ 0 _ (fun i => ?_)) (Nat.le_trans (Nat.mul_le_mul_right (3 ^ n) hl) (by rw [Nat.pow_succ]; omega))
  split
  ·exact zBt hw n _
  ·simp
theorem zDc {s : Story} (v : Valid s.first) : ∀ x, x ∈ s0 s → TOk s 0 x := zBu _ (zBd v)
theorem J6 {s : Story} (h3 : s.steps.length ≤ 3) (hw : ∀ w, w ∈ s.steps → w.length ≤ 3) : (s0 s).length ≤ 27 :=
 Nat.le_trans (zBt hw _ _) (Nat.pow_le_pow_right (by omega) h3 : 3 ^ s.steps.length ≤ 3 ^ 3)
theorem stepsErr_zero : ∀ {l : List (List Change)}, Z9 l = 0 ↔ ∀ w, w ∈ l → 0 < w.length ∧ w.length ≤ 3 ∧ a7 w = 0
 | [] => by simp [Z9]
 | w :: r => by
  rw [Z9]
  split
  ·rename_i h
   constructor
   ·intro e; omega
   ·intro e; have := e w (by simp); omega
  ·split
   ·rename_i h
    constructor
    ·intro e; omega
    ·intro e; have := e w (by simp); omega
   ·split
    ·rename_i h1 h2 h3
     rw [stepsErr_zero]
     constructor
     ·intro e x hx
      rcases List.mem_cons.1 hx with rfl | hx
      ·exact ⟨by omega, by omega, h3⟩
      ·exact e x hx
     ·intro e x hx; exact e x (by simp [hx])
    ·rename_i h3
     constructor
     ·intro e; omega
     ·intro e; exact absurd (e w (by simp)).2.2 h3
theorem factsErr_zero {p : zNU} : ∀ {l : List Fact}, a9 p l = 0 ↔ ∀ f, f ∈ l → f.src ∈ q6 p ∧ zNX f.dst.street 0 (p.length - 1) = true ∧ f.dst.plate.ok = true
 | [] => by simp [a9]
 | f :: r => by
  rw [a9]
  split
  ·rename_i h
   split
   ·rename_i h2; rw [factsErr_zero]; simp [h, h2]
   ·rename_i h2
    constructor
    ·intro e; omega
    ·intro e; exact absurd (e f (by simp)).2.2 h2
  ·rename_i h
   constructor
   ·intro e; omega
   ·intro e; exact absurd ⟨(e f (by simp)).1, (e f (by simp)).2.1⟩ h
structure Told (s : Story) : Prop where
 first : Valid s.first
 steps : s.steps.length ≤ 3
 ways : ∀ w, w ∈ s.steps → 0 < w.length ∧ w.length ≤ 3 ∧ a7 w = 0
 facts : s.facts.length ≤ 4
 fact : ∀ f, f ∈ s.facts → f.src ∈ q6 s.first ∧ zNX f.dst.street 0 (s.first.length - 1) = true ∧ f.dst.plate.ok = true
theorem E8 {s : Story} (h : j5 s = 0) : Told s := by
 unfold j5 at h
 split at h
 ·rename_i h1
  split at h
  ·omega
  ·rename_i h2
   unfold V6 at h
   split at h
   ·rename_i h3
    unfold H1 at h
    split at h
    ·omega
    ·rename_i h4
     exact ⟨(Q1 _).1 h1, by omega, stepsErr_zero.1 h3, by omega, factsErr_zero.1 h⟩
   ·rename_i h3; exact absurd h h3
 ·rename_i h1; exact absurd h h1
end Go.Abs

namespace Go.Abs
open Go
def o8 (x : Plate) : List Plate → List Plate
 | [] => [x]
 | y :: r => if y.lt x = true then y :: o8 x r else if y = x then y :: r else x :: y :: r
def O1 (n : Int) (b : Bool) (k : Int) (dy dn : Dice) : Plate × Dice := if b = true then (⟨n, k⟩, dy) else (⟨n, 0⟩, dn)
def Z5 (d : Dice) : Plate × Dice := O1 (s9 1 9 d) (W9 4 (u9 1 9 d)) (s9 1 2 (j3 4 (u9 1 9 d))) (u9 1 2 (j3 4 (u9 1 9 d))) (j3 4 (u9 1 9 d))
def V1 : Nat → Dice → List Plate → List Plate × Dice
 | 0, d, out => (out, d)
 | n + 1, d, out => V1 n (Z5 d).2 (o8 (Z5 d).1 out)
def c7 (d : Dice) (most : Int) : List Plate × Dice := V1 (toN most d).toNat (toD most d) []
def f8 (d : Dice) (houses : Int) : List Plate × Dice := c7 (j3 3 d) (if W9 3 d = true then 0 else houses)
def Y6 (houses : Int) : Nat → Dice → zNU → zNU × Dice
 | 0, d, out => (out, d)
 | n + 1, d, out => Y6 houses n (f8 d houses).2 (out ++ [(f8 d houses).1])
def V0 (d : Dice) (houses : Int) : zNU × Dice := Y6 houses (s9 1 3 d).toNat (u9 1 3 d) []
theorem mem_insPl {x z : Plate} : ∀ {l : List Plate}, z ∈ o8 x l ↔ z = x ∨ z ∈ l
 | [] => by simp [o8]
 | y :: r => by
  simp only [o8]
  split
  ·simp only [List.mem_cons, mem_insPl (l := r)]
   constructor
   ·rintro (h | h | h) <;> simp [h]
   ·rintro (h | h | h) <;> simp [h]
  ·split
   ·rename_i e; subst e; simp
   ·simp
theorem zDW {x : Plate} : ∀ {l : List Plate}, l.Pairwise (fun a b => a.lt b = true) → (o8 x l).Pairwise (fun a b => a.lt b = true)
 | [], _ => by simp [o8]
 | y :: r, h => by
  obtain ⟨h1, h2⟩ := List.pairwise_cons.1 h
  simp only [o8]
  split
  ·rename_i hy
   refine List.pairwise_cons.2 ⟨fun z hz => ?_, zDW h2⟩
   rcases mem_insPl.1 hz with rfl | hz
   ·exact hy
   ·exact h1 z hz
  ·rename_i hy
   split
   ·exact h
   ·rename_i hne
    have hxy : x.lt y = true := by
     rcases Plate.lt_tri x y with h | h | h
     ·exact h
     ·exact absurd h.symm hne
     ·exact absurd h hy
    refine List.pairwise_cons.2 ⟨fun z hz => ?_, h⟩
    rcases List.mem_cons.1 hz with rfl | hz
    ·exact hxy
    ·exact Plate.lt_trans hxy (h1 z hz)
theorem zAD {x : Plate} : ∀ {l : List Plate}, (o8 x l).length ≤ l.length + 1
 | [] => by simp [o8]
 | y :: r => by
  simp only [o8]
  split
  ·simp only [List.length_cons]; have := zAD (x := x) (l := r); omega
  ·split <;> simp
theorem zAC {x : Plate} : ∀ {l : List Plate} {k : Nat}, k ≤ l.length → (∀ j, j < k → (l.getD j default).lt x = true) → (k < l.length → (l.getD k default).lt x = false) →
  o8 x l = if k < l.length ∧ l.getD k default = x then l else l.take k ++ x :: l.drop k
 | [], k, hk, _, _ => by
  have : k = 0 := by simpa using hk
  subst this
  simp [o8]
 | y :: r, 0, _, _, h => by
  have h0 : y.lt x = false := by simpa using h (by simp)
  simp only [o8, h0]
  by_cases e : y = x
  ·simp [e]
  ·simp [e]
 | y :: r, k + 1, hk, hj, h => by
  have h0 : y.lt x = true := by simpa using hj 0 (by omega)
  have ih := zAC (x := x) (l := r) (k := k) (by simpa using hk) (fun j hj' => by simpa using hj (j + 1) (by omega)) (fun hk' => by simpa using h (by simpa using hk'))
  simp only [o8, h0, if_true, ih]
  by_cases e : k < r.length ∧ r.getD k default = x
  ·rw [if_pos e, if_pos (by simpa using e)]
  ·rw [if_neg e, if_neg (by simpa using e)]; simp
theorem zHg {n k : Int} (b : Bool) (dy dn : Dice) (h1 : 1 ≤ n ∧ n ≤ 9) (h2 : 1 ≤ k ∧ k ≤ 2) : (O1 n b k dy dn).1.ok = true := by
 unfold O1
 split
 ·rw [p9]; simp only; omega
 ·rw [p9]; simp only; omega
theorem zHh (d : Dice) : (Z5 d).1.ok = true := zHg _ _ _ (M8 (by omega) d) (M8 (by omega) _)
theorem zCg : ∀ (n : Nat) (d : Dice) (out : List Plate), out.length + n ≤ 8 → (∀ x, x ∈ out → x.ok = true) → out.Pairwise (fun a b => a.lt b = true) → Sound (V1 n d out).1
 | 0, d, out, hl, ho, hs => ⟨by simpa [V1] using hl, ho, hs⟩
 | n + 1, d, out, hl, ho, hs => by
  have h1 := zAD (x := (Z5 d).1) (l := out)
  refine zCg n _ _ (by omega) (fun x hx => ?_) (zDW hs)
  rcases mem_insPl.1 hx with rfl | hx
  ·exact zHh d
  ·exact ho x hx
theorem zHm {d : Dice} {most : Int} (h : most ≤ 8) : Sound (c7 d most).1 := by
 have := D1 most d
 exact zCg _ _ [] (by simp; omega) (by simp) (by simp)
theorem zDS {houses : Int} (h : houses ≤ 8) : ∀ (n : Nat) (d : Dice) (out : zNU), (∀ l, l ∈ out → Sound l) → (Y6 houses n d out).1.length = out.length + n ∧ ∀ l, l ∈ (Y6 houses n d out).1 → Sound l
 | 0, d, out, ho => ⟨rfl, ho⟩
 | n + 1, d, out, ho => by
  obtain ⟨h1, h2⟩ := zDS h n (f8 d houses).2 (out ++ [(f8 d houses).1]) (fun l hl => by
   rcases List.mem_append.1 hl with hl | hl
   ·exact ho l hl
   ·have : l = (f8 d houses).1 := by simpa using hl
    rw [this]
    exact zHm (by split <;> omega))
  refine ⟨?_, h2⟩
  have : (Y6 houses (n + 1) d out).1 = (Y6 houses n (f8 d houses).2 (out ++ [(f8 d houses).1])).1 := rfl
  rw [this, h1]; simp; omega
theorem zHf {d : Dice} {houses : Int} (h : houses ≤ 8) : Valid (V0 d houses).1 := by
 have h0 := M8 (lo := 1) (hi := 3) (by omega) d
 obtain ⟨h1, h2⟩ := zDS h (s9 1 3 d).toNat (u9 1 3 d) [] (by simp)
 have e : (V0 d houses).1 = (Y6 houses (s9 1 3 d).toNat (u9 1 3 d) []).1 := rfl
 simp only [List.length_nil, Nat.zero_add] at h1
 exact ⟨by rw [e, h1]; omega, by rw [e, h1]; omega, fun l hl => h2 l (by rw [← e]; exact hl)⟩
def zAm (d : Dice) (l : List Plate) : Plate × Dice :=
 if l.length = 0 then (⟨s9 1 9 d, 0⟩, u9 1 9 d)
 else if W9 12 d = true then (⟨s9 1 9 (j3 12 d), 0⟩, u9 1 9 (j3 12 d))
 else (l.getD (toN (l.length - 1) (j3 12 d)).toNat default, toD (l.length - 1) (j3 12 d))
def zEk (d : Dice) (p : zNU) (kind : Int) (s : Int) : Change × Dice :=
 if kind = 4 then (⟨4, s, (s + s9 1 2 d) % p.length, zeroPlate, zeroPlate⟩, u9 1 2 d)
 else if kind = 7 then
  let o := (s + s9 1 2 d) % p.length
  let a := zAm (u9 1 2 d) (z7 p s)
  let b := zAm a.2 (z7 p s)
  if b.1.lt a.1 = true then (⟨7, s, o, b.1, a.1⟩, b.2) else (⟨7, s, o, a.1, b.1⟩, b.2)
 else if kind = 5 ∨ kind = 6 then
  let a := zAm d (z7 p s)
  (⟨kind, s, 0, a.1, zeroPlate⟩, a.2)
 else (⟨kind, s, 0, zeroPlate, zeroPlate⟩, d)
def zK3 (d : Dice) (p : zNU) : Change × Dice := zEk (toD (p.length - 1) (u9 1 7 d)) p (s9 1 7 d) (toN (p.length - 1) (u9 1 7 d))
end Go.Abs

namespace Go.Abs
open Go
def c8 (l : List Truth) (h : House) (x : Truth) : Nat := l.countP fun y => decide (x.now h = y.now h)
def o4 (l : List Truth) (h : House) : Nat := l.foldl (fun m x => max m (c8 l h x)) 0
def Z0 (g : List Nat) : List Nat → Nat → Int → Int
 | [], _, at_ => at_
 | x :: r, i, at_ => Z0 g r (i + 1) (if at_ < 0 ∨ x < g.getD at_.toNat 0 then i else at_)
def c5 (g : List Nat) : Int := Z0 g g 0 (-1)
def U8 (s : Story) : List Nat := (q6 s.first).map (o4 (s0 s))
def I5 (s : Story) : Option (House × Nat) :=
 if (s0 s).length = 0 ∨ c5 (U8 s) < 0 ∨ (U8 s).getD (c5 (U8 s)).toNat 0 = (s0 s).length then none
 else some ((q6 s.first).getD (c5 (U8 s)).toNat default, (U8 s).getD (c5 (U8 s)).toNat 0)
def S4 (s : Story) (h : House) : List House := (s0 s).flatMap fun t => t.now h
def N3 (s : Story) (h : House) : Int := if j5 s = 0 then if h ∈ q6 s.first then if s0 s = [] then 11 else 0 else 3 else j5 s
def zA0 (s : Story) (h : House) : List House := p5 (S4 s h)
def D2 (s : Story) : List (List Int) := (s0 s).map fun t => t.ways
def zKj (s : Story) : Int := if j5 s = 0 then (if (I5 s).isSome = true then 0 else 11) else j5 s
def zNq (l : List Int) : List Plate := l.map fun n => ⟨n, 0⟩
def townX : zNU := [zNq [1, 2, 3, 4, 5], zNq [1, 2], []]
def atX (s n : Int) : House := ⟨s, ⟨n, 0⟩⟩
def W2 : Change := ⟨4, 1, 0, zeroPlate, zeroPlate⟩
def zJo : Change := ⟨1, 0, 0, zeroPlate, zeroPlate⟩
def zJi : Change := ⟨2, 0, 0, zeroPlate, zeroPlate⟩
def H2 : Change := ⟨6, 0, 0, ⟨3, 0⟩, zeroPlate⟩
def taleX : Story := ⟨townX, [[zJo, zJi], [W2]], []⟩
def F2 : zNU := [zNq [1, 2, 3, 4, 5, 7, 8], [], []]
def F3 : zNU := [zNq [1, 2, 4, 5, 7, 8], [], []]
theorem zDk : p7 townX W2 = 0 := by kernel_rfl
theorem zJ1 : u6 townX W2 = F2 := by kernel_rfl
theorem zA6 : j5 taleX = 0 := by kernel_rfl
theorem zDm : D2 taleX = [[0, 0], [1, 0]] := by kernel_rfl
theorem zDn : S4 taleX (atX 0 1) = [atX 0 5, atX 0 2] := by kernel_rfl
theorem zJ5 : N3 taleX (atX 0 1) = 0 := by
 unfold N3
 rw [if_pos zA6, if_pos (by decide), if_neg]
 intro h
 have := zDm
 unfold D2 at this
 rw [h] at this
 cases this
theorem zJ4 : zA0 taleX (atX 0 1) = [atX 0 2, atX 0 5] := by kernel_rfl
theorem zJ2 : I5 taleX = some (atX 0 1, 1) := by kernel_rfl
theorem zJ3 : R6 townX F3 = some [W2, H2] := by kernel_rfl
end Go.Abs

namespace Go.Abs
open Go
structure Move where
 src : House
 dst : House
 deriving DecidableEq, Inhabited
@[reducible] def Move.enc (m : Move) : AV := .agg [iV m.src.street, iV m.src.plate.number, iV m.src.plate.letter, iV m.dst.street, iV m.dst.plate.number, iV m.dst.plate.letter]
attribute [go_sem] Move.enc
def zL0 (p : zNU) (c : Change) : List Move := (q6 p).flatMap fun h => (mv p c h).map fun z => ⟨h, z⟩
def zEU (p : zNU) (c : Change) (h : House) : Int := if p7 p c = 0 then (if h ∈ q6 p then 0 else 3) else p7 p c
def zKk (p : zNU) (c : Change) (h : House) : List House := if zEU p c h = 0 then p5 (mv p c h) else []
def zDi (p : zNU) (c : Change) (h : House) : Option House := (q6 p).find? fun x => decide (h ∈ mv p c x)
def zJv (p : zNU) (c : Change) (h : House) : Int := if p7 p c = 0 then (if (zDi p c h).isSome = true then 0 else 3) else p7 p c
end Go.Abs

namespace Go.Abs
open Go Go.Proofs Tryz
structure Plate.Wf (x : Plate) : Prop where
 n : (Lit.int .i64 x.number).wf = true
 l : (Lit.int .i64 x.letter).wf = true
structure PlanB (N : Nat) (p : zNU) : Prop where
 len : p.length ≤ N
 rows : ∀ l, l ∈ p → l.length ≤ N
 wf : ∀ l, l ∈ p → ∀ x, x ∈ l → x.Wf
structure Bound (N : Nat) (s : Story) : Prop where
 first : PlanB N s.first
 steps : s.steps.length ≤ N
 ways : ∀ w, w ∈ s.steps → w.length ≤ N
 facts : s.facts.length ≤ N
 wf : ∀ f, f ∈ s.facts → f.src.Wf ∧ f.dst.Wf
theorem PlanB.house {N : Nat} {p : zNU} (b : PlanB N p) (hN : N ≤ 4294967296) : ∀ h, h ∈ q6 p → h.Wf := fun h hh => by
 obtain ⟨h0, h1, h2⟩ := mem_houses.1 hh
 have hl := b.len
 have w := b.wf _ (zH8 h0 h1) _ h2
 exact ⟨D3 (by omega) (by omega), w.n, w.l⟩
def zDp : House := ⟨0, ⟨0, 0⟩⟩
def zOv (p : zNU) (c : Change) (h : House) : House := if zJv p c h = 0 then (zDi p c h).getD zDp else zDp
end Go.Abs

namespace Go.Abs
open Go Go.Proofs Go.Proofs.YtcbpjojhfgadlaaGreatDoor Go.ChangeShapes Go.WideShapes Go.ChangeAt Go.RowKit
noncomputable def Sh.okB : Sh → TypeId ⊕ (List Field × Nat) → Bool
 | .int, .inl t => match Tryz.prog.underlying t with
  | some (.int .i64) => true
  | _ => false
 | .str, .inl t => match Tryz.prog.underlying t with
  | some .string => true
  | _ => false
 | .sl b e, .inl t => match Tryz.prog.underlying t with
  | some (.slice u) => Tryz.prog.cellsOf u == e.n && (decide (0 < e.n) && ((!b || e.n == 1) && e.okB (.inl u)))
  | _ => false
 | .st b, .inl t => match Tryz.prog.underlying t with
  | some (.struct fs) => Tryz.prog.cellsOf t == b.n && b.okB (.inr (fs.toList, 0))
  | _ => false
 | .emp, .inr (l, _) => l.isEmpty
 | .cat x y, .inr (l, off) => match l with
  | f :: r => f.offset == off && (Tryz.prog.cellsOf f.type == x.n && (x.okB (.inl f.type) && y.okB (.inr (r, off + x.n))))
  | [] => false
 | _, _ => false
theorem zCG {α : Type} {f : α → AV} : ∀ {xs : List AV}, (∀ x, x ∈ xs → ∃ a, x = f a) → ∃ l : List α, xs = l.map f
 | [], _ => ⟨[], rfl⟩
 | x :: r, h => by
  obtain ⟨a, rfl⟩ := h x (by simp)
  obtain ⟨l, rfl⟩ := zCG (xs := r) (fun y hy => h y (by simp [hy]))
  exact ⟨a :: l, rfl⟩
theorem zGy {α : Type} {f : α → AV} {q : α → Prop} {xs : List AV} (h : ∀ x, x ∈ xs → ∃ a, x = f a ∧ q a) : ∃ l : List α, xs = l.map f ∧ ∀ a, a ∈ l → q a := by
 obtain ⟨l, rfl⟩ := zCG (f := fun a : {a : α // q a} => f a.1) (xs := xs) (fun x hx => by
  obtain ⟨a, e, ha⟩ := h x hx
  exact ⟨⟨a, ha⟩, e⟩)
 exact ⟨l.map (·.1), by rw [List.map_map]; rfl, fun a ha => by obtain ⟨b, _, rfl⟩ := List.mem_map.1 ha; exact b.2⟩
theorem zKB {H : Type} {enc : TypeId × Value → H} {W : World} {v : Value} {d : DataW H} {ps : List MemPlace} (hval : Value.okWide Tryz.prog W .any 0 9 v ∨ ∃ base, Value.okWide Tryz.prog W .any base 9 v)
  (h : DataW.Trod enc Tryz.prog W 0 (fun _ => true) true 9 v d ps) (hk : Rows.uptoBulk d ≤ 1048576) : ∃ s : Str, PR W (zOC W) (sV s) v ∧ s.length ≤ 1048576 := by
 have : ∃ b : ByteArray, v = .string b := by
  rcases hval with hval | ⟨base, hval⟩
  ·exact okWide_string Tryz.underlying9 hval
  ·exact okWide_string Tryz.underlying9 hval
 obtain ⟨b, rfl⟩ := this
 obtain ⟨fuel, hf⟩ := h
 obtain ⟨c, ⟨s, h1, rfl⟩, h2⟩ := zH0 (N := 1048576) (ht := Tryz.underlying9) hf hk
 refine ⟨s, ?_, h1⟩
 have := h2.2 0 (by simp) (by simp [Value.cells])
 simpa [Value.cells] using this
abbrev D9 : Sh := .st (.cat .int (.cat .int .emp))
abbrev zKC : Sh := .cat (.sl true (.sl false D9)) .emp
theorem zHk {N : Nat} {d : List AV} (h : TyC N D9 d) : ∃ x : Plate, AV.agg d = x.enc ∧ x.Wf := by
 obtain ⟨c1, c2, rfl, ⟨n, w1, rfl⟩, ⟨c3, c4, rfl, ⟨l, w2, rfl⟩, h4⟩⟩ := h
 cases (show c4 = [] from h4)
 exact ⟨⟨n, l⟩, rfl, ⟨w1, w2⟩⟩
theorem row_of {N : Nat} {c : List AV} (h : TyC N (.sl false D9) c) : ∃ l : List Plate, c = [q9 l] ∧ l.length ≤ N ∧ ∀ x, x ∈ l → x.Wf := by
 obtain ⟨xs, rfl, hl, hx⟩ := h
 obtain ⟨l, rfl, w⟩ := zGy (f := Plate.enc) (q := Plate.Wf) (xs := xs) (fun x hm => by
  obtain ⟨d, hd, rfl⟩ := hx x hm
  exact zHk hd)
 exact ⟨l, rfl, by simpa using hl, w⟩
end Go.Abs

namespace Go.Abs
open Go Go.Proofs Tryz
attribute [local irreducible] q8 Hold y4
section
variable {P : Program} {E : Env} {Q : Exit → AS → Prop} {σ : AS} {p : List Nat} {b c : Code} {l : Nat}
def zAb : Code → Code
 | .rangeFunc _ _ a _ => a
 | _ => .skip
def zAc : Code → Code
 | .rangeFunc _ _ _ b => b
 | _ => .skip
def zGi : Code → Option (Operand × Array Tmp)
 | .rangeFunc g ps _ _ => some (g, ps)
 | _ => none
theorem zCk {id : Nat} {ops : List Oper} (h : c = .region id ops.toArray false) (hx : q8 P ops (fun σ' _ => Q .normal σ') ops σ []) : HoldR l P E c Q σ := by rw [h]; exact zGH hx
theorem zHw {id : Nat} (h : zB6 c = some id) (hx : HoldR l P E (B1 0 c) (z4 id Q) σ) : HoldR l P E c Q σ := by
 cases c with
 | block i c => cases h; exact zGG hx
 | _ => cases h
theorem zIL {g : Operand} {ps : Array Tmp} (h : zGi (sub p b) = some (g, ps)) {f : FuncId} {caps : List AV} (hg : σ.ev g = .fn f caps) (hc : r8 P f = true) {nx : Nat} (hnx : σ.obj nx = .unb)
  (hx : ∀ fn, ∃ nx', y4 P f (.yld nx :: caps) (σ.setO nx (.loopo ⟨fn, ps, zAb (sub p b), zAc (sub p b), σ.n⟩ σ.env (some none))).obj nx' (fun _ _ wr => zCl P E Q nx ((σ.setO nx (.loopo ⟨fn, ps, zAb (sub p b), zAc (sub p b), σ.n⟩ σ.env (some none))).writes wr))) : Hold P E (sub p b) Q σ := by
 cases hq : sub p b with
 | rangeFunc g' ps' a b' =>
  rw [hq] at h hx; cases h
  exact zGO hg hc hnx hx
 | _ => rw [hq] at h; cases h
theorem zIP {id : Nat} {ops : List Oper} (k : Nat) (h : sub p b = .region id ops.toArray false) {o : Oper} (hk : ops[k]? = some o) {fo : Operand} {args : Array Operand} {ts : Array TypeId} (hop : o.op = .call ⟨.value fo, args, ts⟩)
  (hx : q8 P ops (fun σ1 _ => l8 ops σ1 o
   ((match o.dst with | some d => ltN d σ1.n | none => True) ∧ D4 P (σ1.ev fo) (args.toList.map σ1.ev) σ1.obj σ1.nx (fun v _ wr => q8 P ops (fun σ' _ => Q .normal σ') (ops.drop (k + 1)) ((σ1.writes wr).putD o.dst v) []))
   ((match o.dst with | some d => ltN d σ1.n | none => True) ∧ q8 P ops (fun σ' _ => Q .normal σ') (ops.drop (k + 1)) (σ1.putD o.dst (.tup [])) [])) (ops.take k) σ []) : Hold P E (sub p b) Q σ := by
 obtain ⟨hlt, he⟩ := List.getElem?_eq_some_iff.1 hk
 have e : ops = ops.take k ++ o :: ops.drop (k + 1) := by
  rw [← he, ← List.drop_eq_getElem_cons hlt, List.take_append_drop]
 obtain ⟨pre, hpre⟩ : ∃ pre, pre = ops.take k := ⟨_, rfl⟩
 obtain ⟨post, hpost⟩ : ∃ post, post = ops.drop (k + 1) := ⟨_, rfl⟩
 rw [← hpre, ← hpost] at e hx
 rw [h]
 clear h hk he hlt hpre hpost
 subst e
 exact zGT hop hx
end
theorem zF4 {all : List Oper} {σ : AS} {o : Oper} {j d : Nat} {want : Bool} {Y N : Prop} (hg : o.guard = some (j, want)) (hj : (all[j]?).bind (·.dst) = some d) (hv : σ.get d = .raw (.bool want)) (h : Y) : l8 all σ o Y N := by
 unfold l8
 rw [hg]
 simp only [hj, hv]
 show gIf want want Y N
 unfold gIf
 exact ⟨fun _ => h, fun e => by cases want <;> cases e⟩
theorem zJ6 {P : Program} {y : AV} {avs : List AV} {H : Nat → AObj} {nx : Nat} {K : Cont} {oid : Nat} (ids ex : List Nat) {args : List AV} {fp : List AObj} {r : AV} {out : List AObj} (sp : C3 P args fp r out)
  (hy : y = .yld oid) (hh : ids.head? = some oid) (h1 : ids.Nodup) (h2 : XpL H (ids.map some) ex args avs) (h3 : fpsF H (ids.map some) ex fp ids) (h4 : ∀ o, o ∈ ex → o ∉ ids) (h5 : ex = [] ∨ (Scal r ∧ ∀ A, A ∈ out → N5 A))
  (h6 : ∀ j, j < out.length - ids.length → H (nx + j) = .unb) (h7 : ∀ A, A ∈ out → A ≠ .unb) (hk : K (r.ren (w7 ids nx)) (ids ++ ex ++ i7 ids nx out) (u7 ids nx out)) : D4 P y avs H nx K := by
 refine ⟨oid, ids, ex, args, fp, r, out, hy, hh, ⟨sp, h1, h4, ?_, (fpsF.sound h3).1, fun k h => ?_, h5, h6, h7⟩, hk⟩
 ·rw [← F8]; exact XpL.all2 h2
 ·rw [← F8]; exact (fpsF.sound h3).2 k h
theorem zBR {P : Program} {f : FuncId} {avs as' args : List AV} {H : Nat → AObj} {nx : Nat} {K : Cont} {r : AV} {fp out : List AObj} (ids gone : List Nat) (sp : zNV P f args fp r out) (ha : (avs.map fun x => (zNW H 3 x).1) = as') (hg : (avs.map fun x => (zNW H 3 x).2).flatten = gone)
  (h1 : ids.Nodup) (h2 : XpL (fun o => if o ∈ gone then .dead else H o) (ids.map some) [] args as') (h3 : fpsF (fun o => if o ∈ gone then .dead else H o) (ids.map some) [] fp ids)
  (h6 : ∀ j, j < out.length - ids.length → (if nx + j ∈ gone then AObj.dead else H (nx + j)) = .unb) (h7 : ∀ A, A ∈ out → A ≠ .unb)
  (hk : K (r.ren (w7 ids nx)) (gone ++ (ids ++ i7 ids nx out)) (w6 gone ++ u7 ids nx out)) : y4 P f avs H nx K := by
 refine zBQ ?_
 rw [ha, hg]
 exact C6 ids [] sp h1 h2 h3 (by simp) (.inl rfl) h6 h7 (by simpa using hk)
theorem N6 {H : Nat → AObj} {m : List (Option Nat)} {ex : List Nat} {x y : AV} : ∀ (xs : List AV), (∀ z, z ∈ xs → XpF H m ex z z) → (XpL H m ex (xs ++ [x]) (xs ++ [y]) ↔ XpF H m ex x y)
 | [], _ => by simp only [List.nil_append, C0, zBC, and_true]
 | z :: r, h => by
  simp only [List.cons_append, C0]
  rw [N6 r (fun z hz => h z (by simp [hz]))]
  exact ⟨fun h => h.2, fun h2 => ⟨h z (by simp), h2⟩⟩
@[go_sem] theorem zKX (H : Nat → AObj) (m : List (Option Nat)) (ex : List Nat) (x y : AV) (p : zNU) : XpL H m ex (List.map q9 p ++ [x]) (List.map q9 p ++ [y]) ↔ XpF H m ex x y :=
 N6 _ (fun z hz => by
  obtain ⟨l, _, rfl⟩ := List.mem_map.1 hz
  simp only [XpF])
@[go_sem] theorem zKa (H : Nat → AObj) (m : List (Option Nat)) (ex : List Nat) (x y : AV) (i : Nat) (p : zNU) : XpL H m ex (List.take i (List.map q9 p) ++ [x]) (List.take i (List.map q9 p) ++ [y]) ↔ XpF H m ex x y :=
 N6 _ (fun z hz => by
  obtain ⟨l, _, rfl⟩ := List.mem_map.1 (List.mem_of_mem_take hz)
  simp only [XpF])
theorem zIz (p : zNU) (v : Valid p) : zNV prog 64 [y3 p] [] (y3 p) [] := by
 have hp3 := v.len
 refine z9 func64 rfl (fun E hE => ?_); simp only [go_sem, ntmps64]
 repeat' (first | (refine Qr rfl ?_; try intro _ hK; try simp only [go_sem, *]) | refine Qh rfl ?_ | refine Qd rfl (by kernel_rfl) ?_ | (refine Qc rfl rfl ?_ ?_ <;> (intro hb; have hc := hb; try simp only [go_sem] at hc)) | refine z6 rfl ?_ | (refine Qb ?_ ?_; focus kernel_rfl) | ((with_reducible apply And.intro); focus omega) | (refine z5 hK ?_; clear hK; simp only [go_sem, *]) | simp only [z3, z4, go_sem, *])
 refine v5 rfl (p.length) (fun i => NoP i) 23 (fun i => [(10, iV i), (9, iV p.length), (8, .list (p.map q9)), (2, .ptr 0 0), (3, .ptr 1 0)]) (fun i => [.box [zNs], .box [.own 2 1 0 i], .box ((p.take i).map q9)]) [some 1, some 2, none] [] (by trivial) ?_; intro i hi hP
 by_cases hi2 : i < p.length
 ·have hr := (v.rows _ (w5 hi2)).len
  have sc := zIa (p.getD i default) (by omega)
  have e := b9 (l := p) (i := i) hi2
  repeat' (first | (refine Qr rfl ?_; try intro _ hK; try simp only [go_sem, *]) | refine Qh rfl ?_ | refine Qd rfl (by kernel_rfl) ?_ | (refine Qc rfl rfl ?_ ?_ <;> (intro hb; have hc := hb; try simp only [go_sem] at hc)) | refine z6 rfl ?_ | (refine Qb ?_ ?_; focus kernel_rfl) | (refine u3 (sc) ?_; simp only [go_sem, *]) | ((with_reducible apply And.intro); focus omega) | (refine z5 hK ?_; clear hK; simp only [go_sem, *]) | simp only [z3, z4, go_sem, *])
  exact v4 (i' := i + 1) [some 0, some 1, some 5] [3] (by trivial)
 ·have e : p.take i = p := List.take_of_length_le (by omega)
  repeat' (first | (refine Qr rfl ?_; try intro _ hK; try simp only [go_sem, *]) | refine Qh rfl ?_ | refine Qd rfl (by kernel_rfl) ?_ | (refine Qc rfl rfl ?_ ?_ <;> (intro hb; have hc := hb; try simp only [go_sem] at hc)) | refine z6 rfl ?_ | (refine Qb ?_ ?_; focus kernel_rfl) | ((with_reducible apply And.intro); focus omega) | (refine z5 hK ?_; clear hK; simp only [go_sem, *]) | simp only [z3, z4, go_sem, *])
  refine ⟨[.agg [.own 2 1 0 i]], [], [2], ⟨by simp only [x7, go_sem], trivial⟩, ?_⟩
  simp only [go_sem, *]
  simp
  omega
end Go.Abs

namespace Go.Abs
open Go Go.Proofs Go.RowKit
attribute [local irreducible] q8 Hold y4
@[go_sem] theorem zNJ (t : Str) : zNw ⟨t.toArray⟩ = t.map fun c => .raw (.int .u8 (c.toNat : Int)) := rfl
def f5 : Nat → zNU → Str → zNU
 | _, p, [] => p
 | st, p, c :: r => if v2 st c = 8 then p else f5 (v2 st c) (u5 (v2 st c) c p) r
def i8 (B : zNU) : zNU ⊕ Nat → AV
 | .inl p => .tup [y3 p, .raw .nilIface]
 | .inr i => .tup [y3 B, .raw (.iface 110 (.int .i64 i))]
def rdP (st : Nat) (q : zNU) (l : List Plate) : zNU := match st with
 | 0 => q
 | 6 => q
 | 7 => q
 | _ => q ++ [l]
abbrev zNp : AObj := .box [.raw (.slice none 0 0)]
def Y4 (st : Nat) (q : zNU) (l : List Plate) : List AObj := match st with
 | 0 => [zNp, zNp]
 | 1 => [zNp, .box [.own 2 1 0 (q.length + 1)], .box (q.map q9 ++ [.raw (.slice none 0 0)])]
 | 6 => [zNp, .box [.own 2 1 0 q.length], .box (q.map q9)]
 | 7 => [zNp, .box [.own 2 1 0 q.length], .box (q.map q9)]
 | _ => [zNp, .box [.own 2 1 0 (q.length + 1)], .box (q.map q9 ++ [.own 3 2 0 l.length]), .row 2 (l.map Plate.enc)]
section
variable (q : zNU) (l : List Plate)
@[go_sem] theorem rd0 : Y4 0 q l = [zNp, zNp] := rfl
@[go_sem] theorem rd1 : Y4 1 q l = [zNp, .box [.own 2 1 0 (q.length + 1)], .box (q.map q9 ++ [.raw (.slice none 0 0)])] := rfl
@[go_sem] theorem rd2 : Y4 2 q l = [zNp, .box [.own 2 1 0 (q.length + 1)], .box (q.map q9 ++ [.own 3 2 0 l.length]), .row 2 (l.map Plate.enc)] := rfl
@[go_sem] theorem rd3 : Y4 3 q l = [zNp, .box [.own 2 1 0 (q.length + 1)], .box (q.map q9 ++ [.own 3 2 0 l.length]), .row 2 (l.map Plate.enc)] := rfl
@[go_sem] theorem rd4 : Y4 4 q l = [zNp, .box [.own 2 1 0 (q.length + 1)], .box (q.map q9 ++ [.own 3 2 0 l.length]), .row 2 (l.map Plate.enc)] := rfl
@[go_sem] theorem rd5 : Y4 5 q l = [zNp, .box [.own 2 1 0 (q.length + 1)], .box (q.map q9 ++ [.own 3 2 0 l.length]), .row 2 (l.map Plate.enc)] := rfl
@[go_sem] theorem rd6 : Y4 6 q l = [zNp, .box [.own 2 1 0 q.length], .box (q.map q9)] := rfl
@[go_sem] theorem rd7 : Y4 7 q l = [zNp, .box [.own 2 1 0 q.length], .box (q.map q9)] := rfl
end
@[go_sem] theorem zNN (q : zNU) (x : AV) : List.take q.length (List.map q9 q ++ [x]) = List.map q9 q := by
 have : q.length = (List.map q9 q).length := by simp
 rw [this]; exact List.take_left
@[go_sem, simp] theorem zNM (l : List Plate) (x : AV) : List.take (l.length + 1) (List.map Plate.enc l ++ [x]) = List.map Plate.enc l ++ [x] := List.take_of_length_le (by simp)
@[go_sem] theorem zLm (l : List Plate) (x : Plate) (d : AV) : (List.map Plate.enc (l ++ [x])).getD l.length d = x.enc := by simp [List.getD]
@[go_sem] theorem zK7 (q : zNU) (x : AV) : List.drop (q.length + 1) (List.map q9 q ++ [x]) = [] := by simp
@[go_sem] theorem zNG (xs : List AV) (n : Nat) (v v' : AV) (h : xs.length = n) : splice (xs ++ [v]) n [v'] = xs ++ [v'] := by
 subst h
 unfold splice
 simp
@[go_sem] theorem zLk (xs : List AV) (n : Nat) (v d : AV) (h : xs.length = n) : (xs ++ [v]).getD n d = v := by
 subst h
 simp [List.getD]
@[go_sem] theorem zNC (xs : List AV) (n : Nat) (v v' : AV) (h : xs.length = n) : (xs ++ [v]).set n v' = xs ++ [v'] := by
 subst h
 simp
theorem zAk {α : Type} {a b : List α} {x y : α} (h : a ++ [x] = b ++ [y]) : a = b ∧ x = y := by
 have := List.append_inj' h rfl
 exact ⟨this.1, by simpa using this.2⟩
theorem zFy {q : zNU} {l : List Plate} (h : e7 3 (q ++ [l])) : ∃ l' : List Plate, ∃ n : Nat, l = l' ++ [⟨n, 0⟩] ∧ 1 ≤ n ∧ n ≤ 9 := by
 obtain ⟨q', l', n, e, h1, h2⟩ := h
 obtain ⟨_, rfl⟩ := zAk e
 exact ⟨l', n.toNat, by rw [Int.toNat_of_nonneg (by omega)], by omega, by omega⟩
theorem zFz {q : zNU} {l : List Plate} (h : e7 4 (q ++ [l])) : ∃ l' : List Plate, ∃ n : Nat, l = l' ++ [⟨n, 0⟩] := by
 obtain ⟨q', l', n, e, h1, h2⟩ := h
 obtain ⟨_, rfl⟩ := zAk e
 exact ⟨l', n.toNat, by rw [Int.toNat_of_nonneg (by omega)]⟩
theorem zBp {q : zNU} {l : List Plate} (h : e7 1 (q ++ [l])) : l = [] := by
 obtain ⟨q', e⟩ := h
 exact (zAk e).2
theorem l7 {st k : Nat} {q : zNU} {l : List Plate} {i : Nat} {c : UInt8} {r : Str} {R : zNU ⊕ Nat} {B : zNU} {q' : zNU} {l' : List Plate} (hP : y9 st (rdP st q l) i (c :: r) = R ∧ f5 st (rdP st q l) (c :: r) = B) (hG : e7 st (rdP st q l)) (hn : zNd st c.toNat = k) (h8 : k ≠ 8)
  (e : u5 k c (rdP st q l) = rdP k q' l') : (y9 k (rdP k q' l') (i + 1) r = R ∧ f5 k (rdP k q' l') r = B) ∧ e7 k (rdP k q' l') := by
 have hn2 : v2 st c = k := by rw [G7]; exact hn
 have hg := (zBq hG (by rw [hn2]; exact h8)).1
 rw [hn2, e] at hg
 obtain ⟨h1, h2⟩ := hP
 rw [zHb hn h8, e] at h1
 rw [f5, if_neg (by rw [hn2]; exact h8), hn2, e] at h2
 exact ⟨⟨h1, h2⟩, hg⟩
theorem W0 {st : Nat} {p : zNU} {i : Nat} {c : UInt8} {r : Str} {R : zNU ⊕ Nat} {B : zNU} (hP : y9 st p i (c :: r) = R ∧ f5 st p (c :: r) = B) (hn : zNd st c.toNat = 8) : R = .inr i ∧ B = p := by
 obtain ⟨h1, h2⟩ := hP
 rw [zHa hn] at h1
 rw [f5, if_pos (by rw [G7]; exact hn)] at h2
 exact ⟨h1.symm, h2.symm⟩
theorem J8 {n : Int} (h0 : 0 ≤ n) (h1 : n < 256) : IntKind.u8.wrap n = n := by
 show n % 256 = n
 omega
theorem zJJ (t : Str) (ht : t.length ≤ 120) : zNV Tryz.prog 51 [sV t] [] (i8 (f5 0 [] t) (y9 0 [] 0 t)) [] := by
  have h0 : y9 0 (rdP 0 [] []) 0 (t.drop 0) = y9 0 [] 0 t ∧ f5 0 (rdP 0 [] []) (t.drop 0) = f5 0 [] t := ⟨rfl, rfl⟩
  generalize y9 0 [] 0 t = R at *
  generalize f5 0 [] t = B at *
  refine z9 Tryz.func51 rfl (fun E hE => ?_); simp only [go_sem, Tryz.ntmps51]
  repeat' (first | (refine Qr rfl ?_; try intro _ hK; try simp only [go_sem, *]) | (refine Qi rfl rfl rfl rfl ?_ ?_ <;> (intro hb; (try intro _ hK); have hc := hb; try simp only [go_sem] at hc; simp only [go_sem, *])) | refine Qh rfl ?_ | refine Qd rfl (by kernel_rfl) ?_ | (refine Qc rfl rfl ?_ ?_ <;> (intro hb; have hc := hb; try simp only [go_sem] at hc)) | refine z6 rfl ?_ | (refine Qb ?_ ?_; focus kernel_rfl) | ((with_reducible apply And.intro); focus omega) | (refine z5 hK ?_; clear hK; simp only [go_sem, *]) | simp only [z3, z4, go_sem, *])
  all_goals try contradiction
  refine Z7 rfl (fun zn zN zenv zAs => ∃ (i : Nat) (st : Nat) (q : zNU) (l : List Plate), zn = (t.length) - i ∧ i ≤ (t.length) ∧ ((y9 st (rdP st q l) i (t.drop i) = R ∧ f5 st (rdP st q l) (t.drop i) = B) ∧ e7 st (rdP st q l) ∧ st ≤ 7 ∧ q.length ≤ i ∧ l.length ≤ i) ∧ zN = 162 ∧ zenv = [(14, iV i), (13, iV t.length), (12, .list (t.map fun c => .raw (.int .u8 (c.toNat : Int)))), (5, iV st), (4, .ptr 1 0), (2, .ptr 0 0), (0, sV t)] ∧ zAs = Y4 st q l) (t.length) ⟨[some 0, some 1], [], _, _, _, (by (simp only [Weak, go_sem, List.map_append, List.map_set, *] <;> (try simp (disch := omega) only [y8]) <;> (try simp) <;> (try omega))), 0, 0, [], [], (by simp), (by simp), (by exact ⟨h0, rfl, by omega, by simp, by simp⟩), rfl, rfl, rfl⟩ ?_; rintro _ _ _ _ ⟨i, st, q, l, rfl, hi, hP, rfl, rfl, rfl⟩
  clear h0
  obtain ⟨hP, hG, hs7, hq, hl⟩ := hP
  have hwi : IntKind.i64.wrap ((i : Int) + 1) = ((i + 1 : Nat) : Int) := y8 (by omega)
  have hq2 : IntKind.i64.wrap (((q.length + 1 : Nat) : Int) - 1) = (q.length : Int) := by rw [wrap_i64 (by omega) (by omega)]; omega
  by_cases hi2 : i < t.length
  · have hii : (i : Int) < (t.length : Int) := by omega
    rw [v3 hi2] at hP
    generalize hc : t.getD i default = c at *
    generalize hcn : c.toNat = cn at *
    have h8 : st = 0 ∨ st = 1 ∨ st = 2 ∨ st = 3 ∨ st = 4 ∨ st = 5 ∨ st = 6 ∨ st = 7 := by omega
    rcases h8 with rfl | rfl | rfl | rfl | rfl | rfl | rfl | rfl
    · have hG0 : q = [] := hG
      subst hG0
      rcases (by omega : cn = 91 ∨ cn ≠ 91) with rfl | hx
      · have hn : zNd 0 91 = 1 := by decide
        replace hP := l7 (k := 1) (q' := []) (l' := []) hP hG (by rw [hcn] <;> exact hn) (by decide) rfl
        clear hn hG
        skip
        repeat' (first | (refine Qr rfl ?_; try intro _ hK; try simp only [go_sem, *]) | (refine Qi rfl rfl rfl rfl ?_ ?_ <;> (intro hb; (try intro _ hK); have hc := hb; try simp only [go_sem] at hc; simp only [go_sem, *])) | refine Qh rfl ?_ | refine Qd rfl (by kernel_rfl) ?_ | (refine Qc rfl rfl ?_ ?_ <;> (intro hb; have hc := hb; try simp only [go_sem] at hc)) | refine z6 rfl ?_ | (refine Qb ?_ ?_; focus kernel_rfl) | ((with_reducible apply And.intro); focus omega) | (refine z5 hK ?_; clear hK; simp only [go_sem, *]) | simp only [z3, z4, go_sem, *])
        all_goals first | contradiction | omega | skip
        refine ⟨_, (by omega), [some 0, some 1, some 3], [], _, _, _, (by (simp only [Weak, go_sem, List.map_append, List.map_set, *] <;> (try simp (disch := omega) only [y8]) <;> (try simp) <;> (try omega))), i + 1, 1, [], [], rfl, (by omega), (by exact ⟨hP.1, hP.2, by omega, by (try simp) <;> omega, by (try simp) <;> omega⟩), rfl, rfl, rfl⟩
      · repeat' (first | (refine Qr rfl ?_; try intro _ hK; try simp only [go_sem, *]) | (refine Qi rfl rfl rfl rfl ?_ ?_ <;> (intro hb; (try intro _ hK); have hc := hb; try simp only [go_sem] at hc; simp only [go_sem, *])) | refine Qh rfl ?_ | refine Qd rfl (by kernel_rfl) ?_ | (refine Qc rfl rfl ?_ ?_ <;> (intro hb; have hc := hb; try simp only [go_sem] at hc)) | refine z6 rfl ?_ | (refine Qb ?_ ?_; focus kernel_rfl) | ((with_reducible apply And.intro); focus omega) | (refine z5 hK ?_; clear hK; simp only [go_sem, *]) | simp only [z3, z4, go_sem, *])
        all_goals first | contradiction | omega | skip
        all_goals (have hn : zNd 0 cn = 8 := (by unfold zNd; (repeat' split) <;> omega))
        all_goals (obtain ⟨hR, hB⟩ := W0 (st := 0) (c := c) hP (by rw [hcn]; exact hn); subst hR; subst hB; simp only [i8]; refine ⟨[?_, _], [], [], ⟨?_, rfl, trivial⟩, ?_⟩; (rotate_left 1); (focus (simp only [x7, go_sem]; exact rfl)); simp only [rdP, List.map_append, List.map_cons, List.map_nil, go_sem, *]; (try simp [u1]); (try (rintro x (⟨a, _, rfl⟩ | rfl) <;> rfl)))
    · have hl0 := zBp hG
      subst hl0
      rcases (by omega : (49 ≤ cn ∧ cn ≤ 57) ∨ cn = 93 ∨ (cn < 49 ∨ 57 < cn) ∧ cn ≠ 93) with hx | rfl | hx
      · have wA : IntKind.u8.wrap ((cn : Int) - 48) = (cn : Int) - 48 := J8 (by omega) (by omega)
        have wB : IntKind.i64.wrap ((cn : Int) - 48) = (cn : Int) - 48 := wrap_i64 (by omega) (by omega)
        have hn : zNd 1 cn = 3 := by unfold zNd; (repeat' split) <;> omega
        replace hP := l7 (k := 3) (q' := q) (l' := [⟨(cn : Int) - 48, 0⟩]) hP hG (by rw [hcn] <;> exact hn) (by decide) (by rw [← hcn]; exact d9 _ _ _)
        clear hn hG
        skip
        repeat' (first | (refine Qr rfl ?_; try intro _ hK; try simp only [go_sem, *]) | (refine Qi rfl rfl rfl rfl ?_ ?_ <;> (intro hb; (try intro _ hK); have hc := hb; try simp only [go_sem] at hc; simp only [go_sem, *])) | refine Qh rfl ?_ | refine Qd rfl (by kernel_rfl) ?_ | (refine Qc rfl rfl ?_ ?_ <;> (intro hb; have hc := hb; try simp only [go_sem] at hc)) | refine z6 rfl ?_ | (refine Qb ?_ ?_; focus kernel_rfl) | ((with_reducible apply And.intro); focus omega) | (refine z5 hK ?_; clear hK; simp only [go_sem, *]) | simp only [z3, z4, go_sem, *])
        all_goals first | contradiction | omega | skip
        refine ⟨_, (by omega), [some 0, some 1, some 2, some 4], [], _, _, _, (by (simp only [Weak, go_sem, List.map_append, List.map_set, *] <;> (try simp (disch := omega) only [y8]) <;> (try simp) <;> (try omega))), i + 1, 3, q, [⟨(cn : Int) - 48, 0⟩], rfl, (by omega), (by exact ⟨hP.1, hP.2, by omega, by (try simp) <;> omega, by (try simp) <;> omega⟩), rfl, rfl, rfl⟩
      · have hn : zNd 1 93 = 6 := by decide
        replace hP := l7 (k := 6) (q' := q ++ [[]]) (l' := []) hP hG (by rw [hcn] <;> exact hn) (by decide) rfl
        clear hn hG
        skip
        repeat' (first | (refine Qr rfl ?_; try intro _ hK; try simp only [go_sem, *]) | (refine Qi rfl rfl rfl rfl ?_ ?_ <;> (intro hb; (try intro _ hK); have hc := hb; try simp only [go_sem] at hc; simp only [go_sem, *])) | refine Qh rfl ?_ | refine Qd rfl (by kernel_rfl) ?_ | (refine Qc rfl rfl ?_ ?_ <;> (intro hb; have hc := hb; try simp only [go_sem] at hc)) | refine z6 rfl ?_ | (refine Qb ?_ ?_; focus kernel_rfl) | ((with_reducible apply And.intro); focus omega) | (refine z5 hK ?_; clear hK; simp only [go_sem, *]) | simp only [z3, z4, go_sem, *])
        all_goals first | contradiction | omega | skip
        refine ⟨_, (by omega), [some 0, some 1, some 2], [], _, _, _, (by (simp only [Weak, go_sem, List.map_append, List.map_set, *] <;> (try simp (disch := omega) only [y8]) <;> (try simp) <;> (try omega))), i + 1, 6, q ++ [[]], [], rfl, (by omega), (by exact ⟨hP.1, hP.2, by omega, by (try simp) <;> omega, by (try simp) <;> omega⟩), rfl, rfl, rfl⟩
      · repeat' (first | (refine Qr rfl ?_; try intro _ hK; try simp only [go_sem, *]) | (refine Qi rfl rfl rfl rfl ?_ ?_ <;> (intro hb; (try intro _ hK); have hc := hb; try simp only [go_sem] at hc; simp only [go_sem, *])) | refine Qh rfl ?_ | refine Qd rfl (by kernel_rfl) ?_ | (refine Qc rfl rfl ?_ ?_ <;> (intro hb; have hc := hb; try simp only [go_sem] at hc)) | refine z6 rfl ?_ | (refine Qb ?_ ?_; focus kernel_rfl) | ((with_reducible apply And.intro); focus omega) | (refine z5 hK ?_; clear hK; simp only [go_sem, *]) | simp only [z3, z4, go_sem, *])
        all_goals first | contradiction | omega | skip
        all_goals (have hn : zNd 1 cn = 8 := (by unfold zNd; (repeat' split) <;> omega))
        all_goals (obtain ⟨hR, hB⟩ := W0 (st := 1) (c := c) hP (by rw [hcn]; exact hn); subst hR; subst hB; simp only [i8]; refine ⟨[?_, _], [], [2], ⟨?_, rfl, trivial⟩, ?_⟩; (rotate_left 1); (focus (simp only [x7, go_sem]; exact rfl)); simp only [rdP, List.map_append, List.map_cons, List.map_nil, go_sem, *]; (try simp [u1]); (try (rintro x (⟨a, _, rfl⟩ | rfl) <;> rfl)))
    · rcases (by omega : (49 ≤ cn ∧ cn ≤ 57) ∨ (cn < 49 ∨ 57 < cn)) with hx | hx
      · have wA : IntKind.u8.wrap ((cn : Int) - 48) = (cn : Int) - 48 := J8 (by omega) (by omega)
        have wB : IntKind.i64.wrap ((cn : Int) - 48) = (cn : Int) - 48 := wrap_i64 (by omega) (by omega)
        have hn : zNd 2 cn = 3 := by unfold zNd; (repeat' split) <;> omega
        replace hP := l7 (k := 3) (q' := q) (l' := l ++ [⟨(cn : Int) - 48, 0⟩]) hP hG (by rw [hcn] <;> exact hn) (by decide) (by rw [← hcn]; exact d9 _ _ _)
        clear hn hG
        skip
        repeat' (first | (refine Qr rfl ?_; try intro _ hK; try simp only [go_sem, *]) | (refine Qi rfl rfl rfl rfl ?_ ?_ <;> (intro hb; (try intro _ hK); have hc := hb; try simp only [go_sem] at hc; simp only [go_sem, *])) | refine Qh rfl ?_ | refine Qd rfl (by kernel_rfl) ?_ | (refine Qc rfl rfl ?_ ?_ <;> (intro hb; have hc := hb; try simp only [go_sem] at hc)) | refine z6 rfl ?_ | (refine Qb ?_ ?_; focus kernel_rfl) | ((with_reducible apply And.intro); focus omega) | (refine z5 hK ?_; clear hK; simp only [go_sem, *]) | simp only [z3, z4, go_sem, *])
        all_goals first | contradiction | omega | skip
        refine ⟨_, (by omega), [some 0, some 1, some 2, some 5], [], _, _, _, (by (simp only [Weak, go_sem, List.map_append, List.map_set, *] <;> (try simp (disch := omega) only [y8]) <;> (try simp) <;> (try omega))), i + 1, 3, q, l ++ [⟨(cn : Int) - 48, 0⟩], rfl, (by omega), (by exact ⟨hP.1, hP.2, by omega, by (try simp) <;> omega, by (try simp) <;> omega⟩), rfl, rfl, rfl⟩
      · repeat' (first | (refine Qr rfl ?_; try intro _ hK; try simp only [go_sem, *]) | (refine Qi rfl rfl rfl rfl ?_ ?_ <;> (intro hb; (try intro _ hK); have hc := hb; try simp only [go_sem] at hc; simp only [go_sem, *])) | refine Qh rfl ?_ | refine Qd rfl (by kernel_rfl) ?_ | (refine Qc rfl rfl ?_ ?_ <;> (intro hb; have hc := hb; try simp only [go_sem] at hc)) | refine z6 rfl ?_ | (refine Qb ?_ ?_; focus kernel_rfl) | ((with_reducible apply And.intro); focus omega) | (refine z5 hK ?_; clear hK; simp only [go_sem, *]) | simp only [z3, z4, go_sem, *])
        all_goals first | contradiction | omega | skip
        all_goals (have hn : zNd 2 cn = 8 := (by unfold zNd; (repeat' split) <;> omega))
        all_goals (obtain ⟨hR, hB⟩ := W0 (st := 2) (c := c) hP (by rw [hcn]; exact hn); subst hR; subst hB; simp only [i8]; refine ⟨[?_, _], [], [2, 3], ⟨?_, rfl, trivial⟩, ?_⟩; (rotate_left 1); (focus (simp only [x7, go_sem]; exact rfl)); simp only [rdP, List.map_append, List.map_cons, List.map_nil, go_sem, *]; (try simp [u1]); (try (rintro x (⟨a, _, rfl⟩ | rfl) <;> rfl)))
    · obtain ⟨l', n, rfl, n1, n9⟩ := zFy hG
      have hL : IntKind.i64.wrap (((l'.length + 1 : Nat) : Int) - 1) = (l'.length : Int) := by simp only [List.length_append, List.length_cons, List.length_nil] at hl; rw [wrap_i64 (by omega) (by omega)]; omega
      rcases (by omega : (48 ≤ cn ∧ cn ≤ 57) ∨ (97 ≤ cn ∧ cn ≤ 100) ∨ cn = 32 ∨ cn = 93 ∨ (cn < 48 ∨ 57 < cn) ∧ (cn < 97 ∨ 100 < cn) ∧ cn ≠ 32 ∧ cn ≠ 93) with hx | hx | rfl | rfl | hx
      · have wA : IntKind.u8.wrap ((cn : Int) - 48) = (cn : Int) - 48 := J8 (by omega) (by omega)
        have wB : IntKind.i64.wrap ((cn : Int) - 48) = (cn : Int) - 48 := wrap_i64 (by omega) (by omega)
        have wC : IntKind.i64.wrap (10 * (n : Int)) = 10 * (n : Int) := wrap_i64 (by omega) (by omega)
        have wD : IntKind.i64.wrap (10 * (n : Int) + ((cn : Int) - 48)) = 10 * (n : Int) + ((cn : Int) - 48) := wrap_i64 (by omega) (by omega)
        have hn : zNd 3 cn = 4 := by unfold zNd; (repeat' split) <;> omega
        replace hP := l7 (k := 4) (q' := q) (l' := l' ++ [⟨10 * (n : Int) + ((cn : Int) - 48), 0⟩]) hP hG (by rw [hcn] <;> exact hn) (by decide) (by rw [← hcn]; exact (d9 _ _ _).trans (by rw [U4]; rfl))
        clear hn hG
        simp only [List.length_append, List.length_cons, List.length_nil] at hl
        repeat' (first | (refine Qr rfl ?_; try intro _ hK; try simp only [go_sem, *]) | (refine Qi rfl rfl rfl rfl ?_ ?_ <;> (intro hb; (try intro _ hK); have hc := hb; try simp only [go_sem] at hc; simp only [go_sem, *])) | refine Qh rfl ?_ | refine Qd rfl (by kernel_rfl) ?_ | (refine Qc rfl rfl ?_ ?_ <;> (intro hb; have hc := hb; try simp only [go_sem] at hc)) | refine z6 rfl ?_ | (refine Qb ?_ ?_; focus kernel_rfl) | ((with_reducible apply And.intro); focus omega) | (refine z5 hK ?_; clear hK; simp only [go_sem, *]) | simp only [z3, z4, go_sem, *])
        all_goals first | contradiction | omega | skip
        refine ⟨_, (by omega), [some 0, some 1, some 2, some 3], [], _, _, _, (by (simp only [Weak, go_sem, List.map_append, List.map_set, *] <;> (try simp (disch := omega) only [y8]) <;> (try simp) <;> (try omega))), i + 1, 4, q, l' ++ [⟨10 * (n : Int) + ((cn : Int) - 48), 0⟩], rfl, (by omega), (by exact ⟨hP.1, hP.2, by omega, by (try simp) <;> omega, by (try simp) <;> omega⟩), rfl, rfl, rfl⟩
      · have wA : IntKind.u8.wrap ((cn : Int) - 97) = (cn : Int) - 97 := J8 (by omega) (by omega)
        have wB : IntKind.i64.wrap ((cn : Int) - 97) = (cn : Int) - 97 := wrap_i64 (by omega) (by omega)
        have wC : IntKind.i64.wrap ((cn : Int) - 97 + 1) = (cn : Int) - 97 + 1 := wrap_i64 (by omega) (by omega)
        have hn : zNd 3 cn = 5 := by unfold zNd; (repeat' split) <;> omega
        replace hP := l7 (k := 5) (q' := q) (l' := l' ++ [⟨n, (cn : Int) - 97 + 1⟩]) hP hG (by rw [hcn] <;> exact hn) (by decide) (by rw [← hcn]; exact (d9 _ _ _).trans (by rw [U4]; rfl))
        clear hn hG
        simp only [List.length_append, List.length_cons, List.length_nil] at hl
        repeat' (first | (refine Qr rfl ?_; try intro _ hK; try simp only [go_sem, *]) | (refine Qi rfl rfl rfl rfl ?_ ?_ <;> (intro hb; (try intro _ hK); have hc := hb; try simp only [go_sem] at hc; simp only [go_sem, *])) | refine Qh rfl ?_ | refine Qd rfl (by kernel_rfl) ?_ | (refine Qc rfl rfl ?_ ?_ <;> (intro hb; have hc := hb; try simp only [go_sem] at hc)) | refine z6 rfl ?_ | (refine Qb ?_ ?_; focus kernel_rfl) | ((with_reducible apply And.intro); focus omega) | (refine z5 hK ?_; clear hK; simp only [go_sem, *]) | simp only [z3, z4, go_sem, *])
        all_goals first | contradiction | omega | skip
        refine ⟨_, (by omega), [some 0, some 1, some 2, some 3], [], _, _, _, (by (simp only [Weak, go_sem, List.map_append, List.map_set, *] <;> (try simp (disch := omega) only [y8]) <;> (try simp) <;> (try omega))), i + 1, 5, q, l' ++ [⟨n, (cn : Int) - 97 + 1⟩], rfl, (by omega), (by exact ⟨hP.1, hP.2, by omega, by (try simp) <;> omega, by (try simp) <;> omega⟩), rfl, rfl, rfl⟩
      · have hn : zNd 3 32 = 2 := by decide
        replace hP := l7 (k := 2) (q' := q) (l' := l' ++ [⟨n, 0⟩]) hP hG (by rw [hcn] <;> exact hn) (by decide) rfl
        clear hn hG
        simp only [List.length_append, List.length_cons, List.length_nil] at hl
        repeat' (first | (refine Qr rfl ?_; try intro _ hK; try simp only [go_sem, *]) | (refine Qi rfl rfl rfl rfl ?_ ?_ <;> (intro hb; (try intro _ hK); have hc := hb; try simp only [go_sem] at hc; simp only [go_sem, *])) | refine Qh rfl ?_ | refine Qd rfl (by kernel_rfl) ?_ | (refine Qc rfl rfl ?_ ?_ <;> (intro hb; have hc := hb; try simp only [go_sem] at hc)) | refine z6 rfl ?_ | (refine Qb ?_ ?_; focus kernel_rfl) | ((with_reducible apply And.intro); focus omega) | (refine z5 hK ?_; clear hK; simp only [go_sem, *]) | simp only [z3, z4, go_sem, *])
        all_goals first | contradiction | omega | skip
        refine ⟨_, (by omega), [some 0, some 1, some 2, some 3], [], _, _, _, (by (simp only [Weak, go_sem, List.map_append, List.map_set, *] <;> (try simp (disch := omega) only [y8]) <;> (try simp) <;> (try omega))), i + 1, 2, q, l' ++ [⟨n, 0⟩], rfl, (by omega), (by exact ⟨hP.1, hP.2, by omega, by (try simp) <;> omega, by (try simp) <;> omega⟩), rfl, rfl, rfl⟩
      · have hn : zNd 3 93 = 6 := by decide
        replace hP := l7 (k := 6) (q' := q ++ [l' ++ [⟨n, 0⟩]]) (l' := []) hP hG (by rw [hcn] <;> exact hn) (by decide) rfl
        clear hn hG
        simp only [List.length_append, List.length_cons, List.length_nil] at hl
        repeat' (first | (refine Qr rfl ?_; try intro _ hK; try simp only [go_sem, *]) | (refine Qi rfl rfl rfl rfl ?_ ?_ <;> (intro hb; (try intro _ hK); have hc := hb; try simp only [go_sem] at hc; simp only [go_sem, *])) | refine Qh rfl ?_ | refine Qd rfl (by kernel_rfl) ?_ | (refine Qc rfl rfl ?_ ?_ <;> (intro hb; have hc := hb; try simp only [go_sem] at hc)) | refine z6 rfl ?_ | (refine Qb ?_ ?_; focus kernel_rfl) | ((with_reducible apply And.intro); focus omega) | (refine z5 hK ?_; clear hK; simp only [go_sem, *]) | simp only [z3, z4, go_sem, *])
        all_goals first | contradiction | omega | skip
        refine ⟨_, (by omega), [some 0, some 1, some 2], [3], _, _, _, (by (simp only [Weak, go_sem, List.map_append, List.map_set, *] <;> (try simp (disch := omega) only [y8]) <;> (try simp) <;> (try omega))), i + 1, 6, q ++ [l' ++ [⟨n, 0⟩]], [], rfl, (by omega), (by exact ⟨hP.1, hP.2, by omega, by (try simp) <;> omega, by (try simp) <;> omega⟩), rfl, rfl, rfl⟩
      · repeat' (first | (refine Qr rfl ?_; try intro _ hK; try simp only [go_sem, *]) | (refine Qi rfl rfl rfl rfl ?_ ?_ <;> (intro hb; (try intro _ hK); have hc := hb; try simp only [go_sem] at hc; simp only [go_sem, *])) | refine Qh rfl ?_ | refine Qd rfl (by kernel_rfl) ?_ | (refine Qc rfl rfl ?_ ?_ <;> (intro hb; have hc := hb; try simp only [go_sem] at hc)) | refine z6 rfl ?_ | (refine Qb ?_ ?_; focus kernel_rfl) | ((with_reducible apply And.intro); focus omega) | (refine z5 hK ?_; clear hK; simp only [go_sem, *]) | simp only [z3, z4, go_sem, *])
        all_goals first | contradiction | omega | skip
        all_goals (have hn : zNd 3 cn = 8 := (by unfold zNd; (repeat' split) <;> omega))
        all_goals (obtain ⟨hR, hB⟩ := W0 (st := 3) (c := c) hP (by rw [hcn]; exact hn); subst hR; subst hB; simp only [i8]; refine ⟨[?_, _], [], [2, 3], ⟨?_, rfl, trivial⟩, ?_⟩; (rotate_left 1); (focus (simp only [x7, go_sem]; exact rfl)); simp only [rdP, List.map_append, List.map_cons, List.map_nil, go_sem, *]; (try simp [u1]); (try (rintro x (⟨a, _, rfl⟩ | rfl) <;> rfl)))
    · obtain ⟨l', n, rfl⟩ := zFz hG
      have hL : IntKind.i64.wrap (((l'.length + 1 : Nat) : Int) - 1) = (l'.length : Int) := by simp only [List.length_append, List.length_cons, List.length_nil] at hl; rw [wrap_i64 (by omega) (by omega)]; omega
      rcases (by omega : (97 ≤ cn ∧ cn ≤ 100) ∨ cn = 32 ∨ cn = 93 ∨ (cn < 97 ∨ 100 < cn) ∧ cn ≠ 32 ∧ cn ≠ 93) with hx | rfl | rfl | hx
      · have wA : IntKind.u8.wrap ((cn : Int) - 97) = (cn : Int) - 97 := J8 (by omega) (by omega)
        have wB : IntKind.i64.wrap ((cn : Int) - 97) = (cn : Int) - 97 := wrap_i64 (by omega) (by omega)
        have wC : IntKind.i64.wrap ((cn : Int) - 97 + 1) = (cn : Int) - 97 + 1 := wrap_i64 (by omega) (by omega)
        have hn : zNd 4 cn = 5 := by unfold zNd; (repeat' split) <;> omega
        replace hP := l7 (k := 5) (q' := q) (l' := l' ++ [⟨n, (cn : Int) - 97 + 1⟩]) hP hG (by rw [hcn] <;> exact hn) (by decide) (by rw [← hcn]; exact (d9 _ _ _).trans (by rw [U4]; rfl))
        clear hn hG
        simp only [List.length_append, List.length_cons, List.length_nil] at hl
        repeat' (first | (refine Qr rfl ?_; try intro _ hK; try simp only [go_sem, *]) | (refine Qi rfl rfl rfl rfl ?_ ?_ <;> (intro hb; (try intro _ hK); have hc := hb; try simp only [go_sem] at hc; simp only [go_sem, *])) | refine Qh rfl ?_ | refine Qd rfl (by kernel_rfl) ?_ | (refine Qc rfl rfl ?_ ?_ <;> (intro hb; have hc := hb; try simp only [go_sem] at hc)) | refine z6 rfl ?_ | (refine Qb ?_ ?_; focus kernel_rfl) | ((with_reducible apply And.intro); focus omega) | (refine z5 hK ?_; clear hK; simp only [go_sem, *]) | simp only [z3, z4, go_sem, *])
        all_goals first | contradiction | omega | skip
        refine ⟨_, (by omega), [some 0, some 1, some 2, some 3], [], _, _, _, (by (simp only [Weak, go_sem, List.map_append, List.map_set, *] <;> (try simp (disch := omega) only [y8]) <;> (try simp) <;> (try omega))), i + 1, 5, q, l' ++ [⟨n, (cn : Int) - 97 + 1⟩], rfl, (by omega), (by exact ⟨hP.1, hP.2, by omega, by (try simp) <;> omega, by (try simp) <;> omega⟩), rfl, rfl, rfl⟩
      · have hn : zNd 4 32 = 2 := by decide
        replace hP := l7 (k := 2) (q' := q) (l' := l' ++ [⟨n, 0⟩]) hP hG (by rw [hcn] <;> exact hn) (by decide) rfl
        clear hn hG
        simp only [List.length_append, List.length_cons, List.length_nil] at hl
        repeat' (first | (refine Qr rfl ?_; try intro _ hK; try simp only [go_sem, *]) | (refine Qi rfl rfl rfl rfl ?_ ?_ <;> (intro hb; (try intro _ hK); have hc := hb; try simp only [go_sem] at hc; simp only [go_sem, *])) | refine Qh rfl ?_ | refine Qd rfl (by kernel_rfl) ?_ | (refine Qc rfl rfl ?_ ?_ <;> (intro hb; have hc := hb; try simp only [go_sem] at hc)) | refine z6 rfl ?_ | (refine Qb ?_ ?_; focus kernel_rfl) | ((with_reducible apply And.intro); focus omega) | (refine z5 hK ?_; clear hK; simp only [go_sem, *]) | simp only [z3, z4, go_sem, *])
        all_goals first | contradiction | omega | skip
        refine ⟨_, (by omega), [some 0, some 1, some 2, some 3], [], _, _, _, (by (simp only [Weak, go_sem, List.map_append, List.map_set, *] <;> (try simp (disch := omega) only [y8]) <;> (try simp) <;> (try omega))), i + 1, 2, q, l' ++ [⟨n, 0⟩], rfl, (by omega), (by exact ⟨hP.1, hP.2, by omega, by (try simp) <;> omega, by (try simp) <;> omega⟩), rfl, rfl, rfl⟩
      · have hn : zNd 4 93 = 6 := by decide
        replace hP := l7 (k := 6) (q' := q ++ [l' ++ [⟨n, 0⟩]]) (l' := []) hP hG (by rw [hcn] <;> exact hn) (by decide) rfl
        clear hn hG
        simp only [List.length_append, List.length_cons, List.length_nil] at hl
        repeat' (first | (refine Qr rfl ?_; try intro _ hK; try simp only [go_sem, *]) | (refine Qi rfl rfl rfl rfl ?_ ?_ <;> (intro hb; (try intro _ hK); have hc := hb; try simp only [go_sem] at hc; simp only [go_sem, *])) | refine Qh rfl ?_ | refine Qd rfl (by kernel_rfl) ?_ | (refine Qc rfl rfl ?_ ?_ <;> (intro hb; have hc := hb; try simp only [go_sem] at hc)) | refine z6 rfl ?_ | (refine Qb ?_ ?_; focus kernel_rfl) | ((with_reducible apply And.intro); focus omega) | (refine z5 hK ?_; clear hK; simp only [go_sem, *]) | simp only [z3, z4, go_sem, *])
        all_goals first | contradiction | omega | skip
        refine ⟨_, (by omega), [some 0, some 1, some 2], [3], _, _, _, (by (simp only [Weak, go_sem, List.map_append, List.map_set, *] <;> (try simp (disch := omega) only [y8]) <;> (try simp) <;> (try omega))), i + 1, 6, q ++ [l' ++ [⟨n, 0⟩]], [], rfl, (by omega), (by exact ⟨hP.1, hP.2, by omega, by (try simp) <;> omega, by (try simp) <;> omega⟩), rfl, rfl, rfl⟩
      · repeat' (first | (refine Qr rfl ?_; try intro _ hK; try simp only [go_sem, *]) | (refine Qi rfl rfl rfl rfl ?_ ?_ <;> (intro hb; (try intro _ hK); have hc := hb; try simp only [go_sem] at hc; simp only [go_sem, *])) | refine Qh rfl ?_ | refine Qd rfl (by kernel_rfl) ?_ | (refine Qc rfl rfl ?_ ?_ <;> (intro hb; have hc := hb; try simp only [go_sem] at hc)) | refine z6 rfl ?_ | (refine Qb ?_ ?_; focus kernel_rfl) | ((with_reducible apply And.intro); focus omega) | (refine z5 hK ?_; clear hK; simp only [go_sem, *]) | simp only [z3, z4, go_sem, *])
        all_goals first | contradiction | omega | skip
        all_goals (have hn : zNd 4 cn = 8 := (by unfold zNd; (repeat' split) <;> omega))
        all_goals (obtain ⟨hR, hB⟩ := W0 (st := 4) (c := c) hP (by rw [hcn]; exact hn); subst hR; subst hB; simp only [i8]; refine ⟨[?_, _], [], [2, 3], ⟨?_, rfl, trivial⟩, ?_⟩; (rotate_left 1); (focus (simp only [x7, go_sem]; exact rfl)); simp only [rdP, List.map_append, List.map_cons, List.map_nil, go_sem, *]; (try simp [u1]); (try (rintro x (⟨a, _, rfl⟩ | rfl) <;> rfl)))
    · rcases (by omega : cn = 32 ∨ cn = 93 ∨ cn ≠ 32 ∧ cn ≠ 93) with rfl | rfl | hx
      · have hn : zNd 5 32 = 2 := by decide
        replace hP := l7 (k := 2) (q' := q) (l' := l) hP hG (by rw [hcn] <;> exact hn) (by decide) rfl
        clear hn hG
        skip
        repeat' (first | (refine Qr rfl ?_; try intro _ hK; try simp only [go_sem, *]) | (refine Qi rfl rfl rfl rfl ?_ ?_ <;> (intro hb; (try intro _ hK); have hc := hb; try simp only [go_sem] at hc; simp only [go_sem, *])) | refine Qh rfl ?_ | refine Qd rfl (by kernel_rfl) ?_ | (refine Qc rfl rfl ?_ ?_ <;> (intro hb; have hc := hb; try simp only [go_sem] at hc)) | refine z6 rfl ?_ | (refine Qb ?_ ?_; focus kernel_rfl) | ((with_reducible apply And.intro); focus omega) | (refine z5 hK ?_; clear hK; simp only [go_sem, *]) | simp only [z3, z4, go_sem, *])
        all_goals first | contradiction | omega | skip
        refine ⟨_, (by omega), [some 0, some 1, some 2, some 3], [], _, _, _, (by (simp only [Weak, go_sem, List.map_append, List.map_set, *] <;> (try simp (disch := omega) only [y8]) <;> (try simp) <;> (try omega))), i + 1, 2, q, l, rfl, (by omega), (by exact ⟨hP.1, hP.2, by omega, by (try simp) <;> omega, by (try simp) <;> omega⟩), rfl, rfl, rfl⟩
      · have hn : zNd 5 93 = 6 := by decide
        replace hP := l7 (k := 6) (q' := q ++ [l]) (l' := []) hP hG (by rw [hcn] <;> exact hn) (by decide) rfl
        clear hn hG
        skip
        repeat' (first | (refine Qr rfl ?_; try intro _ hK; try simp only [go_sem, *]) | (refine Qi rfl rfl rfl rfl ?_ ?_ <;> (intro hb; (try intro _ hK); have hc := hb; try simp only [go_sem] at hc; simp only [go_sem, *])) | refine Qh rfl ?_ | refine Qd rfl (by kernel_rfl) ?_ | (refine Qc rfl rfl ?_ ?_ <;> (intro hb; have hc := hb; try simp only [go_sem] at hc)) | refine z6 rfl ?_ | (refine Qb ?_ ?_; focus kernel_rfl) | ((with_reducible apply And.intro); focus omega) | (refine z5 hK ?_; clear hK; simp only [go_sem, *]) | simp only [z3, z4, go_sem, *])
        all_goals first | contradiction | omega | skip
        refine ⟨_, (by omega), [some 0, some 1, some 2], [3], _, _, _, (by (simp only [Weak, go_sem, List.map_append, List.map_set, *] <;> (try simp (disch := omega) only [y8]) <;> (try simp) <;> (try omega))), i + 1, 6, q ++ [l], [], rfl, (by omega), (by exact ⟨hP.1, hP.2, by omega, by (try simp) <;> omega, by (try simp) <;> omega⟩), rfl, rfl, rfl⟩
      · repeat' (first | (refine Qr rfl ?_; try intro _ hK; try simp only [go_sem, *]) | (refine Qi rfl rfl rfl rfl ?_ ?_ <;> (intro hb; (try intro _ hK); have hc := hb; try simp only [go_sem] at hc; simp only [go_sem, *])) | refine Qh rfl ?_ | refine Qd rfl (by kernel_rfl) ?_ | (refine Qc rfl rfl ?_ ?_ <;> (intro hb; have hc := hb; try simp only [go_sem] at hc)) | refine z6 rfl ?_ | (refine Qb ?_ ?_; focus kernel_rfl) | ((with_reducible apply And.intro); focus omega) | (refine z5 hK ?_; clear hK; simp only [go_sem, *]) | simp only [z3, z4, go_sem, *])
        all_goals first | contradiction | omega | skip
        all_goals (have hn : zNd 5 cn = 8 := (by unfold zNd; (repeat' split) <;> omega))
        all_goals (obtain ⟨hR, hB⟩ := W0 (st := 5) (c := c) hP (by rw [hcn]; exact hn); subst hR; subst hB; simp only [i8]; refine ⟨[?_, _], [], [2, 3], ⟨?_, rfl, trivial⟩, ?_⟩; (rotate_left 1); (focus (simp only [x7, go_sem]; exact rfl)); simp only [rdP, List.map_append, List.map_cons, List.map_nil, go_sem, *]; (try simp [u1]); (try (rintro x (⟨a, _, rfl⟩ | rfl) <;> rfl)))
    · rcases (by omega : cn = 91 ∨ cn = 10 ∨ cn ≠ 91 ∧ cn ≠ 10) with rfl | rfl | hx
      · have hn : zNd 6 91 = 1 := by decide
        replace hP := l7 (k := 1) (q' := q) (l' := []) hP hG (by rw [hcn] <;> exact hn) (by decide) rfl
        clear hn hG
        skip
        repeat' (first | (refine Qr rfl ?_; try intro _ hK; try simp only [go_sem, *]) | (refine Qi rfl rfl rfl rfl ?_ ?_ <;> (intro hb; (try intro _ hK); have hc := hb; try simp only [go_sem] at hc; simp only [go_sem, *])) | refine Qh rfl ?_ | refine Qd rfl (by kernel_rfl) ?_ | (refine Qc rfl rfl ?_ ?_ <;> (intro hb; have hc := hb; try simp only [go_sem] at hc)) | refine z6 rfl ?_ | (refine Qb ?_ ?_; focus kernel_rfl) | ((with_reducible apply And.intro); focus omega) | (refine z5 hK ?_; clear hK; simp only [go_sem, *]) | simp only [z3, z4, go_sem, *])
        all_goals first | contradiction | omega | skip
        refine ⟨_, (by omega), [some 0, some 1, some 4], [], _, _, _, (by (simp only [Weak, go_sem, List.map_append, List.map_set, *] <;> (try simp (disch := omega) only [y8]) <;> (try simp) <;> (try omega))), i + 1, 1, q, [], rfl, (by omega), (by exact ⟨hP.1, hP.2, by omega, by (try simp) <;> omega, by (try simp) <;> omega⟩), rfl, rfl, rfl⟩
      · have hn : zNd 6 10 = 7 := by decide
        replace hP := l7 (k := 7) (q' := q) (l' := []) hP hG (by rw [hcn] <;> exact hn) (by decide) rfl
        clear hn hG
        skip
        repeat' (first | (refine Qr rfl ?_; try intro _ hK; try simp only [go_sem, *]) | (refine Qi rfl rfl rfl rfl ?_ ?_ <;> (intro hb; (try intro _ hK); have hc := hb; try simp only [go_sem] at hc; simp only [go_sem, *])) | refine Qh rfl ?_ | refine Qd rfl (by kernel_rfl) ?_ | (refine Qc rfl rfl ?_ ?_ <;> (intro hb; have hc := hb; try simp only [go_sem] at hc)) | refine z6 rfl ?_ | (refine Qb ?_ ?_; focus kernel_rfl) | ((with_reducible apply And.intro); focus omega) | (refine z5 hK ?_; clear hK; simp only [go_sem, *]) | simp only [z3, z4, go_sem, *])
        all_goals first | contradiction | omega | skip
        refine ⟨_, (by omega), [some 0, some 1, some 2], [], _, _, _, (by (simp only [Weak, go_sem, List.map_append, List.map_set, *] <;> (try simp (disch := omega) only [y8]) <;> (try simp) <;> (try omega))), i + 1, 7, q, [], rfl, (by omega), (by exact ⟨hP.1, hP.2, by omega, by (try simp) <;> omega, by (try simp) <;> omega⟩), rfl, rfl, rfl⟩
      · repeat' (first | (refine Qr rfl ?_; try intro _ hK; try simp only [go_sem, *]) | (refine Qi rfl rfl rfl rfl ?_ ?_ <;> (intro hb; (try intro _ hK); have hc := hb; try simp only [go_sem] at hc; simp only [go_sem, *])) | refine Qh rfl ?_ | refine Qd rfl (by kernel_rfl) ?_ | (refine Qc rfl rfl ?_ ?_ <;> (intro hb; have hc := hb; try simp only [go_sem] at hc)) | refine z6 rfl ?_ | (refine Qb ?_ ?_; focus kernel_rfl) | ((with_reducible apply And.intro); focus omega) | (refine z5 hK ?_; clear hK; simp only [go_sem, *]) | simp only [z3, z4, go_sem, *])
        all_goals first | contradiction | omega | skip
        all_goals (have hn : zNd 6 cn = 8 := (by unfold zNd; (repeat' split) <;> omega))
        all_goals (obtain ⟨hR, hB⟩ := W0 (st := 6) (c := c) hP (by rw [hcn]; exact hn); subst hR; subst hB; simp only [i8]; refine ⟨[?_, _], [], [2], ⟨?_, rfl, trivial⟩, ?_⟩; (rotate_left 1); (focus (simp only [x7, go_sem]; exact rfl)); simp only [rdP, List.map_append, List.map_cons, List.map_nil, go_sem, *]; (try simp [u1]); (try (rintro x (⟨a, _, rfl⟩ | rfl) <;> rfl)))
    · repeat' (first | (refine Qr rfl ?_; try intro _ hK; try simp only [go_sem, *]) | (refine Qi rfl rfl rfl rfl ?_ ?_ <;> (intro hb; (try intro _ hK); have hc := hb; try simp only [go_sem] at hc; simp only [go_sem, *])) | refine Qh rfl ?_ | refine Qd rfl (by kernel_rfl) ?_ | (refine Qc rfl rfl ?_ ?_ <;> (intro hb; have hc := hb; try simp only [go_sem] at hc)) | refine z6 rfl ?_ | (refine Qb ?_ ?_; focus kernel_rfl) | ((with_reducible apply And.intro); focus omega) | (refine z5 hK ?_; clear hK; simp only [go_sem, *]) | simp only [z3, z4, go_sem, *])
      all_goals first | contradiction | omega | skip
      all_goals (have hn : zNd 7 cn = 8 := (by unfold zNd; (repeat' split) <;> omega))
      all_goals (obtain ⟨hR, hB⟩ := W0 (st := 7) (c := c) hP (by rw [hcn]; exact hn); subst hR; subst hB; simp only [i8]; refine ⟨[?_, _], [], [2], ⟨?_, rfl, trivial⟩, ?_⟩; (rotate_left 1); (focus (simp only [x7, go_sem]; exact rfl)); simp only [rdP, List.map_append, List.map_cons, List.map_nil, go_sem, *]; (try simp [u1]); (try (rintro x (⟨a, _, rfl⟩ | rfl) <;> rfl)))
  · have hii : ¬ (i : Int) < (t.length : Int) := by omega
    have hit : i = t.length := by omega
    rw [u0 (by omega)] at hP
    have h8 : st = 7 ∨ st = 0 ∨ st = 1 ∨ st = 2 ∨ st = 3 ∨ st = 4 ∨ st = 5 ∨ st = 6 := by omega
    obtain ⟨hP, hB⟩ := hP
    have hB2 : B = rdP st q l := by rw [← hB]; rfl
    subst hB2
    clear hB
    rcases h8 with rfl | h8
    · have hR : R = .inl q := by rw [← hP]; rfl
      subst hR
      clear hP
      simp only [i8]
      repeat' (first | (refine Qr rfl ?_; try intro _ hK; try simp only [go_sem, *]) | (refine Qi rfl rfl rfl rfl ?_ ?_ <;> (intro hb; (try intro _ hK); have hc := hb; try simp only [go_sem] at hc; simp only [go_sem, *])) | refine Qh rfl ?_ | refine Qd rfl (by kernel_rfl) ?_ | (refine Qc rfl rfl ?_ ?_ <;> (intro hb; have hc := hb; try simp only [go_sem] at hc)) | refine z6 rfl ?_ | (refine Qb ?_ ?_; focus kernel_rfl) | ((with_reducible apply And.intro); focus omega) | (refine z5 hK ?_; clear hK; simp only [go_sem, *]) | simp only [z3, z4, go_sem, *])
      all_goals first | contradiction | omega | skip
      refine ⟨[?_, _], [], [2], ⟨?_, rfl, trivial⟩, ?_⟩
      rotate_left 1
      focus (simp only [x7, go_sem]; exact rfl)
      simp only [go_sem, *]
      simp [u1]
    · have hR : R = .inr t.length := by
        rw [← hP, hit]
        rcases h8 with rfl | rfl | rfl | rfl | rfl | rfl | rfl <;> rfl
      subst hR
      clear hP
      subst hit
      simp only [i8]
      rcases h8 with rfl | rfl | rfl | rfl | rfl | rfl | rfl
      · have hG0 : q = [] := hG
        subst hG0
        repeat' (first | (refine Qr rfl ?_; try intro _ hK; try simp only [go_sem, *]) | (refine Qi rfl rfl rfl rfl ?_ ?_ <;> (intro hb; (try intro _ hK); have hc := hb; try simp only [go_sem] at hc; simp only [go_sem, *])) | refine Qh rfl ?_ | refine Qd rfl (by kernel_rfl) ?_ | (refine Qc rfl rfl ?_ ?_ <;> (intro hb; have hc := hb; try simp only [go_sem] at hc)) | refine z6 rfl ?_ | (refine Qb ?_ ?_; focus kernel_rfl) | ((with_reducible apply And.intro); focus omega) | (refine z5 hK ?_; clear hK; simp only [go_sem, *]) | simp only [z3, z4, go_sem, *])
        all_goals first | contradiction | omega | skip
        (refine ⟨[?_, _], [], [], ⟨?_, rfl, trivial⟩, ?_⟩; (rotate_left 1); (focus (simp only [x7, go_sem]; exact rfl)); simp only [rdP, List.map_append, List.map_cons, List.map_nil, go_sem, *]; (try simp [u1]); (try (rintro x (⟨a, _, rfl⟩ | rfl) <;> rfl)))
      · have hl0 := zBp hG
        subst hl0
        repeat' (first | (refine Qr rfl ?_; try intro _ hK; try simp only [go_sem, *]) | (refine Qi rfl rfl rfl rfl ?_ ?_ <;> (intro hb; (try intro _ hK); have hc := hb; try simp only [go_sem] at hc; simp only [go_sem, *])) | refine Qh rfl ?_ | refine Qd rfl (by kernel_rfl) ?_ | (refine Qc rfl rfl ?_ ?_ <;> (intro hb; have hc := hb; try simp only [go_sem] at hc)) | refine z6 rfl ?_ | (refine Qb ?_ ?_; focus kernel_rfl) | ((with_reducible apply And.intro); focus omega) | (refine z5 hK ?_; clear hK; simp only [go_sem, *]) | simp only [z3, z4, go_sem, *])
        all_goals first | contradiction | omega | skip
        (refine ⟨[?_, _], [], [2], ⟨?_, rfl, trivial⟩, ?_⟩; (rotate_left 1); (focus (simp only [x7, go_sem]; exact rfl)); simp only [rdP, List.map_append, List.map_cons, List.map_nil, go_sem, *]; (try simp [u1]); (try (rintro x (⟨a, _, rfl⟩ | rfl) <;> rfl)))
      · repeat' (first | (refine Qr rfl ?_; try intro _ hK; try simp only [go_sem, *]) | (refine Qi rfl rfl rfl rfl ?_ ?_ <;> (intro hb; (try intro _ hK); have hc := hb; try simp only [go_sem] at hc; simp only [go_sem, *])) | refine Qh rfl ?_ | refine Qd rfl (by kernel_rfl) ?_ | (refine Qc rfl rfl ?_ ?_ <;> (intro hb; have hc := hb; try simp only [go_sem] at hc)) | refine z6 rfl ?_ | (refine Qb ?_ ?_; focus kernel_rfl) | ((with_reducible apply And.intro); focus omega) | (refine z5 hK ?_; clear hK; simp only [go_sem, *]) | simp only [z3, z4, go_sem, *])
        all_goals first | contradiction | omega | skip
        (refine ⟨[?_, _], [], [2, 3], ⟨?_, rfl, trivial⟩, ?_⟩; (rotate_left 1); (focus (simp only [x7, go_sem]; exact rfl)); simp only [rdP, List.map_append, List.map_cons, List.map_nil, go_sem, *]; (try simp [u1]); (try (rintro x (⟨a, _, rfl⟩ | rfl) <;> rfl)))
      · repeat' (first | (refine Qr rfl ?_; try intro _ hK; try simp only [go_sem, *]) | (refine Qi rfl rfl rfl rfl ?_ ?_ <;> (intro hb; (try intro _ hK); have hc := hb; try simp only [go_sem] at hc; simp only [go_sem, *])) | refine Qh rfl ?_ | refine Qd rfl (by kernel_rfl) ?_ | (refine Qc rfl rfl ?_ ?_ <;> (intro hb; have hc := hb; try simp only [go_sem] at hc)) | refine z6 rfl ?_ | (refine Qb ?_ ?_; focus kernel_rfl) | ((with_reducible apply And.intro); focus omega) | (refine z5 hK ?_; clear hK; simp only [go_sem, *]) | simp only [z3, z4, go_sem, *])
        all_goals first | contradiction | omega | skip
        (refine ⟨[?_, _], [], [2, 3], ⟨?_, rfl, trivial⟩, ?_⟩; (rotate_left 1); (focus (simp only [x7, go_sem]; exact rfl)); simp only [rdP, List.map_append, List.map_cons, List.map_nil, go_sem, *]; (try simp [u1]); (try (rintro x (⟨a, _, rfl⟩ | rfl) <;> rfl)))
      · repeat' (first | (refine Qr rfl ?_; try intro _ hK; try simp only [go_sem, *]) | (refine Qi rfl rfl rfl rfl ?_ ?_ <;> (intro hb; (try intro _ hK); have hc := hb; try simp only [go_sem] at hc; simp only [go_sem, *])) | refine Qh rfl ?_ | refine Qd rfl (by kernel_rfl) ?_ | (refine Qc rfl rfl ?_ ?_ <;> (intro hb; have hc := hb; try simp only [go_sem] at hc)) | refine z6 rfl ?_ | (refine Qb ?_ ?_; focus kernel_rfl) | ((with_reducible apply And.intro); focus omega) | (refine z5 hK ?_; clear hK; simp only [go_sem, *]) | simp only [z3, z4, go_sem, *])
        all_goals first | contradiction | omega | skip
        (refine ⟨[?_, _], [], [2, 3], ⟨?_, rfl, trivial⟩, ?_⟩; (rotate_left 1); (focus (simp only [x7, go_sem]; exact rfl)); simp only [rdP, List.map_append, List.map_cons, List.map_nil, go_sem, *]; (try simp [u1]); (try (rintro x (⟨a, _, rfl⟩ | rfl) <;> rfl)))
      · repeat' (first | (refine Qr rfl ?_; try intro _ hK; try simp only [go_sem, *]) | (refine Qi rfl rfl rfl rfl ?_ ?_ <;> (intro hb; (try intro _ hK); have hc := hb; try simp only [go_sem] at hc; simp only [go_sem, *])) | refine Qh rfl ?_ | refine Qd rfl (by kernel_rfl) ?_ | (refine Qc rfl rfl ?_ ?_ <;> (intro hb; have hc := hb; try simp only [go_sem] at hc)) | refine z6 rfl ?_ | (refine Qb ?_ ?_; focus kernel_rfl) | ((with_reducible apply And.intro); focus omega) | (refine z5 hK ?_; clear hK; simp only [go_sem, *]) | simp only [z3, z4, go_sem, *])
        all_goals first | contradiction | omega | skip
        (refine ⟨[?_, _], [], [2, 3], ⟨?_, rfl, trivial⟩, ?_⟩; (rotate_left 1); (focus (simp only [x7, go_sem]; exact rfl)); simp only [rdP, List.map_append, List.map_cons, List.map_nil, go_sem, *]; (try simp [u1]); (try (rintro x (⟨a, _, rfl⟩ | rfl) <;> rfl)))
      · repeat' (first | (refine Qr rfl ?_; try intro _ hK; try simp only [go_sem, *]) | (refine Qi rfl rfl rfl rfl ?_ ?_ <;> (intro hb; (try intro _ hK); have hc := hb; try simp only [go_sem] at hc; simp only [go_sem, *])) | refine Qh rfl ?_ | refine Qd rfl (by kernel_rfl) ?_ | (refine Qc rfl rfl ?_ ?_ <;> (intro hb; have hc := hb; try simp only [go_sem] at hc)) | refine z6 rfl ?_ | (refine Qb ?_ ?_; focus kernel_rfl) | ((with_reducible apply And.intro); focus omega) | (refine z5 hK ?_; clear hK; simp only [go_sem, *]) | simp only [z3, z4, go_sem, *])
        all_goals first | contradiction | omega | skip
        (refine ⟨[?_, _], [], [2], ⟨?_, rfl, trivial⟩, ?_⟩; (rotate_left 1); (focus (simp only [x7, go_sem]; exact rfl)); simp only [rdP, List.map_append, List.map_cons, List.map_nil, go_sem, *]; (try simp [u1]); (try (rintro x (⟨a, _, rfl⟩ | rfl) <;> rfl)))
end Go.Abs

namespace Go.Abs
open Go Go.Proofs Go.RowKit
attribute [local irreducible] q8 Hold y4
theorem zCs : ∀ p : zNU, p.length ≤ (p.flatMap v7).length
 | [] => by simp
 | l :: r => by
  have := zCs r
  have h2 : 1 ≤ (v7 l).length := by unfold v7; simp
  rw [List.flatMap_cons, List.length_append, List.length_cons]
  omega
theorem zHc {t : Str} {p : zNU} (h : y9 0 [] 0 t = .inl p) : p.length ≤ t.length := by
 have h1 := zCs p
 have h2 := zCa h
 rw [← h2]
 unfold n0
 rw [List.length_append]
 omega
@[reducible] def O5 (t : Str) : AV := .tup [y3 (F6 t), iV (F5 t), iV (T6 t)]
theorem zC8 (t : Str) (ht : t.length ≤ 4294967296) : zNV Tryz.prog 14 [sV t] [] (O5 t) [] := by
 unfold O5 F6 F5 T6
 by_cases q : 120 < t.length
 ·have qi : (t.length : Int) > 120 := by omega
  rw [if_pos q, if_pos q, if_pos q]
  clear q
  refine z9 Tryz.func14 rfl (fun E hE => ?_); simp only [go_sem, Tryz.ntmps14]
  repeat' (first | (refine Qr rfl ?_; try intro _ hK; try simp only [go_sem, *]) | refine Qh rfl ?_ | refine Qd rfl (by kernel_rfl) ?_ | (refine Qc rfl rfl ?_ ?_ <;> (intro hb; have hc := hb; try simp only [go_sem] at hc)) | refine z6 rfl ?_ | (refine Qb ?_ ?_; focus kernel_rfl) | ((with_reducible apply And.intro); focus omega) | (refine z5 hK ?_; clear hK; simp only [go_sem, *]) | simp only [z3, z4, go_sem, *])
  all_goals first | contradiction | omega | skip
  refine ⟨[?_, _, _], [], [], ⟨?_, rfl, rfl, trivial⟩, ?_⟩
  rotate_left 1
  focus (simp only [x7, go_sem]; exact rfl)
  simp only [List.map_nil, go_sem, *]
 ·have qi : ¬ (t.length : Int) > 120 := by omega
  rw [if_neg q, if_neg q, if_neg q]
  have sp := zJJ t (by omega)
  clear q
  cases hr : y9 0 [] 0 t with
  | inr i =>
   rw [hr] at sp
   simp only [i8] at sp
   clear hr
   generalize f5 0 [] t = B at *
   have sa := zIT i (iV 0)
   refine z9 Tryz.func14 rfl (fun E hE => ?_); simp only [go_sem, Tryz.ntmps14]
   repeat' (first | (refine Qr rfl ?_; try intro _ hK; try simp only [go_sem, *]) | refine Qh rfl ?_ | refine Qd rfl (by kernel_rfl) ?_ | (refine Qc rfl rfl ?_ ?_ <;> (intro hb; have hc := hb; try simp only [go_sem] at hc)) | refine z6 rfl ?_ | (refine Qb ?_ ?_; focus kernel_rfl) | (refine z8 (sp) ?_; simp only [go_sem, *]) | (refine l5 [2] (sa) ?_; simp only [go_sem, *]) | ((with_reducible apply And.intro); focus omega) | (refine z5 hK ?_; clear hK; simp only [go_sem, *]) | simp only [z3, z4, go_sem, *])
   all_goals first | contradiction | omega | skip
   refine ⟨[?_, _, _], [], [], ⟨?_, rfl, rfl, trivial⟩, ?_⟩
   rotate_left 1
   focus (simp only [x7, go_sem]; exact rfl)
   simp only [List.map_nil, go_sem, *]
  | inl p =>
   have hl := zHc hr
   rw [hr] at sp
   simp only [i8] at sp
   clear hr
   have sc := i9 p (by omega)
   have sa := zIU (iV 0)
   by_cases h0 : check p = 0
   ·simp only [h0, if_true]
    rw [h0] at sc
    clear h0
    refine z9 Tryz.func14 rfl (fun E hE => ?_); simp only [go_sem, Tryz.ntmps14]
    repeat' (first | (refine Qr rfl ?_; try intro _ hK; try simp only [go_sem, *]) | refine Qh rfl ?_ | refine Qd rfl (by kernel_rfl) ?_ | (refine Qc rfl rfl ?_ ?_ <;> (intro hb; have hc := hb; try simp only [go_sem] at hc)) | refine z6 rfl ?_ | (refine Qb ?_ ?_; focus kernel_rfl) | ((first | refine z8 (sp) ?_ | refine z8 (sc) ?_); simp only [go_sem, *]) | (refine l5 [2] (sa) ?_; simp only [go_sem, *]) | ((with_reducible apply And.intro); focus omega) | (refine z5 hK ?_; clear hK; simp only [go_sem, *]) | simp only [z3, z4, go_sem, *])
    all_goals first | contradiction | omega | skip
    refine ⟨[?_, _, _], [], [], ⟨?_, rfl, rfl, trivial⟩, ?_⟩
    rotate_left 1
    focus (simp only [x7, go_sem]; exact rfl)
    simp only [List.map_nil, go_sem, *]
   ·simp only [if_neg h0]
    generalize check p = e at *
    refine z9 Tryz.func14 rfl (fun E hE => ?_); simp only [go_sem, Tryz.ntmps14]
    repeat' (first | (refine Qr rfl ?_; try intro _ hK; try simp only [go_sem, *]) | refine Qh rfl ?_ | refine Qd rfl (by kernel_rfl) ?_ | (refine Qc rfl rfl ?_ ?_ <;> (intro hb; have hc := hb; try simp only [go_sem] at hc)) | refine z6 rfl ?_ | (refine Qb ?_ ?_; focus kernel_rfl) | ((first | refine z8 (sp) ?_ | refine z8 (sc) ?_); simp only [go_sem, *]) | (refine l5 [2] (sa) ?_; simp only [go_sem, *]) | ((with_reducible apply And.intro); focus omega) | (refine z5 hK ?_; clear hK; simp only [go_sem, *]) | simp only [z3, z4, go_sem, *])
    all_goals first | contradiction | omega | skip
    refine ⟨[?_, _, _], [], [], ⟨?_, rfl, rfl, trivial⟩, ?_⟩
    rotate_left 1
    focus (simp only [x7, go_sem]; exact rfl)
    simp only [List.map_nil, go_sem, *]
end Go.Abs

namespace Go.Abs
open Go Go.Proofs Tryz
attribute [local irreducible] q8 Hold y4
noncomputable def zBL : Code := sub [0, 1, 0, 1, 1, 1, 1] (C4 Tryz.f60)
noncomputable def e9 (fn : FuncId) : LoopK := ⟨fn, #[19], zAb zBL, zAc zBL, 26⟩
theorem zJ8 (fn : FuncId) (p : zNU) (t : Truth) (acc : List Truth) (h : acc.length ≤ 1000) :
  C3 prog [t.enc p] [.loopo (e9 fn) [(7, .ptr 1 0)] (some none), .box [.own 2 3 0 acc.length], .row 3 (acc.map (Truth.enc p))] (bV true)
   [.loopo (e9 fn) [(7, .ptr 1 0)] (some none), .box [.own 3 3 0 (acc ++ [t]).length], .dead, .row 3 ((acc ++ [t]).map (Truth.enc p))] := by
 refine zJ9 (L := e9 fn) (env := [(7, .ptr 1 0)]) (j := none) rfl rfl (fun E l hE => ?_)
 refine zCk rfl ?_
 simp only [e9, V2, go_sem]
 repeat' (first | (refine Qr (ops := _ :: _) rfl ?_; try intro _ hK; try simp only [go_sem, *]) | (refine Qi rfl rfl rfl rfl ?_ ?_ <;> (intro hb; (try intro _ hK); have hc := hb; try simp only [go_sem] at hc; simp only [go_sem, *])) | (refine Qb ?_ ?_; focus kernel_rfl) | ((with_reducible apply And.intro); focus omega) | (refine z5 hK ?_; clear hK; simp only [go_sem, *]) | simp only [z3, z4, go_sem, *])
 refine zAj ?_
 refine ⟨by simp only [go_sem], ?_⟩
 refine zHw (id := 1) rfl ?_
 refine zCk rfl ?_
 simp only [go_sem]
 repeat' (first | (refine Qr (ops := _ :: _) rfl ?_; try intro _ hK; try simp only [go_sem, *]) | (refine Qi rfl rfl rfl rfl ?_ ?_ <;> (intro hb; (try intro _ hK); have hc := hb; try simp only [go_sem] at hc; simp only [go_sem, *])) | (refine Qb ?_ ?_; focus kernel_rfl) | ((with_reducible apply And.intro); focus omega) | (refine z5 hK ?_; clear hK; simp only [go_sem, *]) | simp only [z3, z4, go_sem, *])
 refine zAj ?_
 refine ⟨by simp only [go_sem], rfl, [some 0, some 1, some 2, some 5], [], ?_⟩
 simp only [go_sem, *]
 simp [lkV, XpF]
end Go.Abs

namespace Go.Abs
open Go Go.Proofs Tryz
attribute [local irreducible] q8 Hold y4
abbrev H7 : AV := .fn 115 [.ptr 0 0, .ptr 1 0, .ptr 2 0]
noncomputable def A7 (fn : FuncId) (s : Story) (acc : List Truth) : List AObj :=
 [.box [.ptr 3 0], .box [.yld 4], .box [H7], o5 s, .loopo (e9 fn) [(7, .ptr 5 0)] (some none), .box [.own 6 3 0 acc.length], .row 3 (acc.map (Truth.enc s.first))]
noncomputable def A8 (fn : FuncId) (s : Story) (acc : List Truth) : List AObj :=
 [.box [.ptr 3 0], .box [.yld 4], .box [H7], o5 s, .loopo (e9 fn) [(7, .ptr 5 0)] (some none), .box [.own 7 3 0 acc.length], .dead, .row 3 (acc.map (Truth.enc s.first))]
attribute [go_sem] A7 A8
theorem zI6 (fn : FuncId) (s : Story) (o0 : Told s) (t : Truth) (o : TOk s 0 t) (acc : List Truth) (ha : acc.length ≤ 1000) :
  zNV prog 115 [t.enc s.first, .ptr 0 0, .ptr 1 0, .ptr 2 0] (A7 fn s acc) (bV true) (A8 fn s (acc ++ p8 s 0 t)) := by
 have hst := o.steps
 have hst2 : ((t.ways.length : Int) == (s.steps.length : Int)) = true := by simp; omega
 have hfl := o0.facts
 have hsrc : ∀ f, f ∈ s.facts → f.src ∈ q6 s.first := fun f hf => (o0.fact f hf).1
 have hnl : ∀ h, h ∈ q6 s.first → (t.now h).length ≤ 1000 := fun h hh => by have := o.small o0.steps hh; omega
 have sf := fun b hb => zI4 s t o0.first (by omega) hsrc hnl b hb
 have sy := zJ8 fn s.first t acc ha
 rw [A9]
 by_cases q : Q3 s.facts t = true
 ·rw [if_pos q]
  have sf1 := sf true q
  clear sf q
  refine z9 func115 rfl (fun E hE => ?_); simp only [go_sem, ntmps115]
  repeat' (first | (refine Qr rfl ?_; try intro _ hK; try simp only [go_sem, *]) | (refine Qi rfl rfl rfl rfl ?_ ?_ <;> (intro hb; (try intro _ hK); have hc := hb; try simp only [go_sem] at hc; simp only [go_sem, *])) | refine Qh rfl ?_ | refine Qd rfl (by kernel_rfl) ?_ | (refine Qb ?_ ?_; focus kernel_rfl) | ((with_reducible apply And.intro); focus omega) | (refine z5 hK ?_; clear hK; simp only [go_sem, *]) | simp only [z3, z4, go_sem, *])
  refine zCz rfl ⟨true, by simp only [go_sem, *], fun _ => ?_, fun e => by cases e⟩
  refine O7 rfl ?_
  refine zIP 7 rfl rfl rfl ?_
  simp only [List.take_succ_cons, List.take_zero, List.drop_succ_cons, List.drop_zero]
  repeat' (first | (refine Qr (ops := _ :: _) rfl ?_; try intro _ hK; try simp only [go_sem, *]) | (refine Qi rfl rfl rfl rfl ?_ ?_ <;> (intro hb; (try intro _ hK); have hc := hb; try simp only [go_sem] at hc; simp only [go_sem, *])) | (refine Qb ?_ ?_; focus kernel_rfl) | ((with_reducible apply And.intro); focus omega) | (refine z5 hK ?_; clear hK; simp only [go_sem, *]) | simp only [z3, z4, go_sem, *])
  refine x8 [3] [] sf1 (by simp) (by simp only [go_sem]) (by simp only [go_sem]) (by simp) (.inl rfl) (by simp [go_sem]) (by simp [go_sem]) ?_
  simp only [go_sem]
  repeat' (first | (refine Qr (ops := _ :: _) rfl ?_; try intro _ hK; try simp only [go_sem, *]) | (refine Qi rfl rfl rfl rfl ?_ ?_ <;> (intro hb; (try intro _ hK); have hc := hb; try simp only [go_sem] at hc; simp only [go_sem, *])) | (refine Qb ?_ ?_; focus kernel_rfl) | ((with_reducible apply And.intro); focus omega) | (refine z5 hK ?_; clear hK; simp only [go_sem, *]) | simp only [z3, z4, go_sem, *])
  refine zAj ?_
  refine zF4 rfl rfl (by simp only [go_sem]) ?_
  refine ⟨by simp only [go_sem], ?_⟩
  simp only [go_sem]
  refine zJ6 [4, 5, 6] [] sy rfl rfl (by simp) (by simp only [go_sem]) ?_ (by simp) (.inl rfl) (by simp [go_sem]) (by simp [go_sem]) ?_
  ·simp only [go_sem]
  simp only [go_sem]
  repeat' (first | (refine Qr rfl ?_; try intro _ hK; try simp only [go_sem, *]) | (refine Qi rfl rfl rfl rfl ?_ ?_ <;> (intro hb; (try intro _ hK); have hc := hb; try simp only [go_sem] at hc; simp only [go_sem, *])) | refine Qh rfl ?_ | refine Qd rfl (by kernel_rfl) ?_ | (refine Qc rfl rfl ?_ ?_ <;> (intro hb; have hc := hb; try simp only [go_sem] at hc)) | refine z6 rfl ?_ | (refine Qb ?_ ?_; focus kernel_rfl) | ((with_reducible apply And.intro); focus omega) | (refine z5 hK ?_; clear hK; simp only [go_sem, *]) | simp only [z3, z4, go_sem, *])
  refine ⟨[_], [some 0, some 1, some 2, some 3, some 4, some 5, some 6, some 8], [], ⟨rfl, trivial⟩, ?_⟩
  simp only [go_sem, *]
 ·rw [if_neg q, List.append_nil]
  rw [Bool.not_eq_true] at q
  have sf1 := sf false q
  clear sf q
  refine z9 func115 rfl (fun E hE => ?_); simp only [go_sem, ntmps115]
  repeat' (first | (refine Qr rfl ?_; try intro _ hK; try simp only [go_sem, *]) | (refine Qi rfl rfl rfl rfl ?_ ?_ <;> (intro hb; (try intro _ hK); have hc := hb; try simp only [go_sem] at hc; simp only [go_sem, *])) | refine Qh rfl ?_ | refine Qd rfl (by kernel_rfl) ?_ | (refine Qc rfl rfl ?_ ?_ <;> (intro hb; have hc := hb; try simp only [go_sem] at hc)) | refine z6 rfl ?_ | (refine Qb ?_ ?_; focus kernel_rfl) | ((with_reducible apply And.intro); focus omega) | (refine z5 hK ?_; clear hK; simp only [go_sem, *]) | simp only [z3, z4, go_sem, *])
  all_goals try contradiction
  refine x8 [3] [] sf1 (by simp) (by simp only [go_sem]) (by simp only [go_sem]) (by simp) (.inl rfl) (by simp [go_sem]) (by simp [go_sem]) ?_
  simp only [go_sem]
  repeat' (first | (refine Qr rfl ?_; try intro _ hK; try simp only [go_sem, *]) | (refine Qi rfl rfl rfl rfl ?_ ?_ <;> (intro hb; (try intro _ hK); have hc := hb; try simp only [go_sem] at hc; simp only [go_sem, *])) | refine Qh rfl ?_ | refine Qd rfl (by kernel_rfl) ?_ | (refine Qc rfl rfl ?_ ?_ <;> (intro hb; have hc := hb; try simp only [go_sem] at hc)) | refine z6 rfl ?_ | (refine Qb ?_ ?_; focus kernel_rfl) | ((with_reducible apply And.intro); focus omega) | (refine z5 hK ?_; clear hK; simp only [go_sem, *]) | simp only [z3, z4, go_sem, *])
  refine ⟨[_], [some 0, some 1, some 2, some 3, some 4, some 5, some 6, some 6], [], ⟨rfl, trivial⟩, ?_⟩
  simp only [go_sem, *]
theorem zDE (fn : FuncId) (s : Story) (o0 : Told s) : ∀ (n : Nat) (t : Truth), TOk s n t → ∀ acc : List Truth, acc.length + (p8 s n t).length ≤ 1000 →
  zNV prog 115 [t.enc s.first, .ptr 0 0, .ptr 1 0, .ptr 2 0] (A7 fn s acc) (bV true) (A8 fn s (acc ++ p8 s n t))
 | 0, t, o, acc, ha => zI6 fn s o0 t o acc (by omega)
 | n + 1, t, o, acc, ha => by
  have IH := zDE fn s o0 n
  have hst := o.steps
  have hst2 : ((t.ways.length : Int) == (s.steps.length : Int)) = false := by simp; omega
  have hkl : t.ways.length < s.steps.length := by omega
  have hw3 := (o0.ways _ (w5 hkl)).2.1
  have h3 := o0.steps
  have v0 := o0.first
  rw [zF3] at ha ⊢
  obtain ⟨w, hw⟩ : ∃ w, w = s.steps.getD t.ways.length default := ⟨_, rfl⟩
  have hwa : r5 s t.ways.length = w := hw.symm
  rw [← hw] at hw3
  obtain ⟨tot, htot⟩ : ∃ tot, tot = acc ++ j8 s n t 0 := ⟨_, rfl⟩
  rw [← htot]
  have hac0 : acc ++ j8 s n t 0 = tot := htot.symm
  have htl : tot.length ≤ 1000 := by rw [htot, List.length_append]; omega
  clear htot ha
  have hcl := zIY t.ways (by omega)
  have hca : r8 prog 115 = true := by kernel_rfl
  refine z9 func115 rfl (fun E hE => ?_); simp only [go_sem, ntmps115]
  repeat' (first | (refine Qr rfl ?_; try intro _ hK; try simp only [go_sem, *]) | (refine Qi rfl rfl rfl rfl ?_ ?_ <;> (intro hb; (try intro _ hK); have hc := hb; try simp only [go_sem] at hc; simp only [go_sem, *])) | refine Qh rfl ?_ | refine Qd rfl (by kernel_rfl) ?_ | (refine Qc rfl rfl ?_ ?_ <;> (intro hb; have hc := hb; try simp only [go_sem] at hc)) | refine z6 rfl ?_ | (refine Qb ?_ ?_; focus kernel_rfl) | ((with_reducible apply And.intro); focus omega) | (refine z5 hK ?_; clear hK; simp only [go_sem, *]) | simp only [z3, z4, go_sem, *])
  all_goals try contradiction
  rw [← hw]
  refine v9 rfl (w.length) (fun i (ac : List Truth) => ac ++ j8 s n t i = tot) 79 (fun i ac => [(41, iV i), (40, iV w.length), (39, .list (w.map Change.enc)), (4, .ptr 7 0), (1, .ptr 0 0), (2, .ptr 1 0), (3, .ptr 2 0)]) (fun i ac => [.box [.ptr 3 0], .box [.yld 4], .box [H7], o5 s, .loopo (e9 fn) [(7, .ptr 5 0)] (some none), .box [.own 8 3 0 ac.length], .dead, .box [.list (t.ways.map iV), .list (t.fin.map q9), .fmap (y7 s.first) (y6 s.first t.now)], .row 3 (ac.map (Truth.enc s.first))]) [some 0, some 1, some 2, some 3, some 4, some 5, some 6, some 7, some 6] [] (acc) (by exact hac0) ?_; intro i ac hi hP
  clear hac0 hw
  by_cases hi2 : i < w.length
  ·obtain ⟨s1, s2⟩ := zAu t.fin (w.getD i default) o.val
   by_cases hcan : can t.fin (w.getD i default) = 0
   ·rw [zF2 (by rw [hwa]; exact hi2) (by rw [hwa]; exact hcan), hwa] at hP
    have se := s2 hcan
    have f := Fit.of_can hcan
    have o2 := o.next hcan i
    have hal := congrArg List.length hP
    simp only [List.length_append] at hal
    have sg := IH (f3 t (w.getD i default) i) o2 ac (by omega)
    clear s1 s2 IH
    have sa := zAr t.fin (w.getD i default) o.val f
    rw [o.town] at sa
    have sth := zJS (q6 s.first) (q6 t.fin) t.now (mv t.fin (w.getD i default)) v0.nodup v0.wf o.val.wf o.mem (fun h hh => o.flat_nodup f hh) (fun h hh => by have := o.small2 h3 f hh; omega)
     (by have := v0.count; omega) (fun h hh => by have := o.small h3 hh; omega) (fun x _ => by have := zAU f x; omega)
    repeat' (first | (refine Qr rfl ?_; try intro _ hK; try simp only [go_sem, *]) | (refine Qi rfl rfl rfl rfl ?_ ?_ <;> (intro hb; (try intro _ hK); have hc := hb; try simp only [go_sem] at hc; simp only [go_sem, *])) | refine Qh rfl ?_ | (refine Qc rfl rfl ?_ ?_ <;> (intro hb; have hc := hb; try simp only [go_sem] at hc)) | refine z6 rfl ?_ | (refine Qb ?_ ?_; focus kernel_rfl) | (refine u3 (se) ?_; simp only [go_sem, *]) | ((with_reducible apply And.intro); focus omega) | (refine z5 hK ?_; clear hK; simp only [go_sem, *]) | simp only [z3, z4, go_sem, *])
    all_goals try contradiction
    generalize w.getD i default = c at *
    refine H8 (N := 79) (env := [(9, .fmap (y7 t.fin) (y6 t.fin (mv t.fin c))), (7, iV i), (41, iV i), (40, iV w.length), (39, .list (w.map Change.enc)), (4, .ptr 7 0), (1, .ptr 0 0), (2, .ptr 1 0), (3, .ptr 2 0)])
     (As := [.box [.ptr 3 0], .box [.yld 4], .box [H7], o5 s, .loopo (e9 fn) [(7, .ptr 5 0)] (some none), .box [.own 8 3 0 ac.length], .dead, .box [.list (t.ways.map iV), .list (t.fin.map q9), .fmap (y7 s.first) (y6 s.first t.now)], .row 3 (ac.map (Truth.enc s.first))])
     [some 0, some 1, some 2, some 3, some 4, some 5, some 6, some 7, some 8] [10] (by (simp only [Weak, go_sem, List.map_append, List.map_set, *] <;> (try simp (disch := omega) only [y8]) <;> (try simp) <;> (try omega))) ?_
    simp only [go_sem]
    repeat' (first | (refine Qr rfl ?_; try intro _ hK; try simp only [go_sem, *]) | (refine Qi rfl rfl rfl rfl ?_ ?_ <;> (intro hb; (try intro _ hK); have hc := hb; try simp only [go_sem] at hc; simp only [go_sem, *])) | refine Qh rfl ?_ | refine Qd rfl (by kernel_rfl) ?_ | (refine Qc rfl rfl ?_ ?_ <;> (intro hb; have hc := hb; try simp only [go_sem] at hc)) | refine z6 rfl ?_ | (refine Qb ?_ ?_; focus kernel_rfl) | ((first | refine z8 (sa) ?_ | refine z8 (sth) ?_); simp only [go_sem, *]) | (refine u3 (hcl) ?_; simp only [go_sem, *]) | ((with_reducible apply And.intro); focus omega) | (refine z5 hK ?_; clear hK; simp only [go_sem, *]) | simp only [z3, z4, go_sem, *])
    refine zBR [0, 1, 2, 3, 4, 5, 8] [11] sg rfl (by simp only [go_sem, Nat.le_refl]) (by simp) ?_ ?_ (by simp [go_sem]) (by simp [go_sem]) ?_
    ·simp only [go_sem, *, Nat.le_refl]
     exact ⟨by simp [f3, List.take_of_length_le], rfl, rfl⟩
    ·simp only [go_sem, *]
    simp only [go_sem, w6, *]
    repeat' (first | (refine Qr rfl ?_; try intro _ hK; try simp only [go_sem, *]) | (refine Qi rfl rfl rfl rfl ?_ ?_ <;> (intro hb; (try intro _ hK); have hc := hb; try simp only [go_sem] at hc; simp only [go_sem, *])) | refine Qh rfl ?_ | refine Qd rfl (by kernel_rfl) ?_ | (refine Qc rfl rfl ?_ ?_ <;> (intro hb; have hc := hb; try simp only [go_sem] at hc)) | refine z6 rfl ?_ | (refine Qb ?_ ?_; focus kernel_rfl) | ((with_reducible apply And.intro); focus omega) | (refine z5 hK ?_; clear hK; simp only [go_sem, *]) | simp only [z3, z4, go_sem, *])
    all_goals try contradiction
    exact x9 (i' := i + 1) [some 0, some 1, some 2, some 3, some 4, some 5, some 6, some 7, some 12] [] (ac ++ p8 s n (f3 t c i)) (by rw [← hP]; simp)
   ·rw [zF1 (by rw [hwa]; exact hi2) (by rw [hwa]; exact hcan)] at hP
    have se := s1 hcan
    have hcb : (can t.fin (w.getD i default) == 0) = false := by simpa using hcan
    clear s1 s2 IH
    repeat' (first | (refine Qr rfl ?_; try intro _ hK; try simp only [go_sem, *]) | (refine Qi rfl rfl rfl rfl ?_ ?_ <;> (intro hb; (try intro _ hK); have hc := hb; try simp only [go_sem] at hc; simp only [go_sem, *])) | refine Qh rfl ?_ | (refine Qc rfl rfl ?_ ?_ <;> (intro hb; have hc := hb; try simp only [go_sem] at hc)) | refine z6 rfl ?_ | (refine Qb ?_ ?_; focus kernel_rfl) | (refine z8 (se) ?_; simp only [go_sem, *]) | ((with_reducible apply And.intro); focus omega) | (refine z5 hK ?_; clear hK; simp only [go_sem, *]) | simp only [z3, z4, go_sem, *])
    all_goals try contradiction
    exact x9 (i' := i + 1) [some 0, some 1, some 2, some 3, some 4, some 5, some 6, some 7, some 8] [] (ac) (by exact hP)
  ·rw [zF0 (by rw [hwa]; omega), List.append_nil] at hP
   subst hP
   repeat' (first | (refine Qr rfl ?_; try intro _ hK; try simp only [go_sem, *]) | (refine Qi rfl rfl rfl rfl ?_ ?_ <;> (intro hb; (try intro _ hK); have hc := hb; try simp only [go_sem] at hc; simp only [go_sem, *])) | refine Qh rfl ?_ | refine Qd rfl (by kernel_rfl) ?_ | (refine Qc rfl rfl ?_ ?_ <;> (intro hb; have hc := hb; try simp only [go_sem] at hc)) | refine z6 rfl ?_ | (refine Qb ?_ ?_; focus kernel_rfl) | ((with_reducible apply And.intro); focus omega) | (refine z5 hK ?_; clear hK; simp only [go_sem, *]) | simp only [z3, z4, go_sem, *])
   refine ⟨[_], [some 0, some 1, some 2, some 3, some 4, some 5, some 6, some 8], [], ⟨rfl, trivial⟩, ?_⟩
   simp only [go_sem, *]
end Go.Abs

namespace Go.Abs
open Go Go.Proofs Tryz
attribute [local irreducible] q8 Hold y4
theorem zJU (fn : FuncId) (s : Story) (o : Told s) :
  zNV prog 114 [.yld 2, .ptr 0 0] [.box [.ptr 1 0], o5 s, .loopo (e9 fn) [(7, .ptr 3 0)] (some none), .box [.own 4 3 0 0], .row 3 []] (.tup [])
   [.box [.ptr 1 0], o5 s, .loopo (e9 fn) [(7, .ptr 3 0)] (some none), .box [.own 5 3 0 (s0 s).length], .dead, .row 3 ((s0 s).map (Truth.enc s.first))] := by
 have v := o.first
 have hl := J6 o.steps (fun w hw => (o.ways w hw).2.1)
 have sg := zDE fn s o s.steps.length (X9 s) (zBd v) [] (by unfold s0 at hl; simp only [List.length_nil]; omega)
 rw [List.nil_append] at sg
 have hca : r8 prog 115 = true := by kernel_rfl
 have sc := zIz s.first v
 have ss := V5 s.first v
 have ht : p8 s s.steps.length (X9 s) = s0 s := rfl
 rw [ht] at sg
 generalize s0 s = l at *
 clear ht
 refine z9 func114 rfl (fun E hE => ?_); simp only [go_sem, ntmps114]
 repeat' (first | (refine Qr rfl ?_; try intro _ hK; try simp only [go_sem, *]) | refine Qh rfl ?_ | refine Qd rfl (by kernel_rfl) ?_ | (refine Qc rfl rfl ?_ ?_ <;> (intro hb; have hc := hb; try simp only [go_sem] at hc)) | refine z6 rfl ?_ | (refine Qb ?_ ?_; focus kernel_rfl) | (refine z8 (sc) ?_; simp only [go_sem, *]) | (refine u3 (ss) ?_; simp only [go_sem, *]) | ((with_reducible apply And.intro); focus omega) | (refine z5 hK ?_; clear hK; simp only [go_sem, *]) | simp only [z3, z4, go_sem, *])
 refine zBR [0, 5, 6, 1, 2, 3, 4] [7] sg rfl (by simp only [go_sem]) (by simp) ?_ ?_ (by simp [go_sem]) (by simp [go_sem]) ?_
 ·simp only [go_sem, *]
  exact ⟨rfl, rfl, rfl⟩
 ·simp only [go_sem, *]
 simp only [go_sem, w6, *]
 repeat' (first | (refine Qr rfl ?_; try intro _ hK; try simp only [go_sem, *]) | refine Qh rfl ?_ | refine Qd rfl (by kernel_rfl) ?_ | (refine Qc rfl rfl ?_ ?_ <;> (intro hb; have hc := hb; try simp only [go_sem] at hc)) | refine z6 rfl ?_ | (refine Qb ?_ ?_; focus kernel_rfl) | ((with_reducible apply And.intro); focus omega) | (refine z5 hK ?_; clear hK; simp only [go_sem, *]) | simp only [z3, z4, go_sem, *])
 refine ⟨[], [some 0, some 1, some 2, some 3, some 4, some 8], [], trivial, ?_⟩
 simp only [go_sem, *]
theorem zJT (s : Story) : zNV prog 92 [.ptr 0 0] [o5 s] (.fn 114 [.ptr 1 0]) [o5 s, .box [.ptr 0 0]] := by
 refine z9 func92 rfl (fun E hE => ?_); simp only [go_sem, ntmps92]
 repeat' (first | (refine Qr rfl ?_; try intro _ hK; try simp only [go_sem, *]) | refine Qh rfl ?_ | (refine Qc rfl rfl ?_ ?_ <;> (intro hb; have hc := hb; try simp only [go_sem] at hc)) | refine z6 rfl ?_ | ((with_reducible apply And.intro); focus omega) | (refine z5 hK ?_; clear hK; simp only [go_sem, *]) | simp only [z3, z4, go_sem, *])
 refine ⟨[_], [some 0, some 1], [], ⟨rfl, trivial⟩, ?_⟩
 simp only [go_sem, *]
theorem zAt (s : Story) (h : j5 s = 0) :
  zNV prog 60 [s.enc] [] (.tup [.ptr 0 0, .list ((s0 s).map (Truth.enc s.first)), iV 0]) [o5 s] := by
 have o := E8 h
 have hl := J6 o.steps (fun w hw => (o.ways w hw).2.1)
 have sb := zIx s (by have := o.steps; omega) (fun w hw => by have := (o.ways w hw).2.1; omega) (by have := o.facts; omega) (by have := o.first.len; omega) (.tup [.ptr 0 0, iV 0]) [o5 s] (j5 s) rfl ⟨fun _ => ⟨rfl, rfl⟩, fun e => absurd h e⟩
 have st := zJT s
 have s1 := fun fn => zJU fn s o
 generalize s0 s = l at *
 refine z9 func60 rfl (fun E hE => ?_); simp only [go_sem, ntmps60]
 repeat' (first | (refine Qr rfl ?_; try intro _ hK; try simp only [go_sem, *]) | refine Qh rfl ?_ | (refine Qc rfl rfl ?_ ?_ <;> (intro hb; have hc := hb; try simp only [go_sem] at hc)) | refine z6 rfl ?_ | (refine Qb ?_ ?_; focus kernel_rfl) | (refine u3 (sb) ?_; simp only [go_sem, *]) | ((with_reducible apply And.intro); focus omega) | (refine z5 hK ?_; clear hK; simp only [go_sem, *]) | simp only [z3, z4, go_sem, *])
 all_goals try contradiction
 refine x8 [1] [] st (by simp) (by simp only [go_sem]) (by simp only [go_sem]) (by simp) (.inl rfl) (by simp [go_sem]) (by simp [go_sem]) ?_
 simp only [go_sem]
 repeat' (first | (refine Qr rfl ?_; try intro _ hK; try simp only [go_sem, *]) | refine Qh rfl ?_ | (refine Qc rfl rfl ?_ ?_ <;> (intro hb; have hc := hb; try simp only [go_sem] at hc)) | refine z6 rfl ?_ | (refine Qb ?_ ?_; focus kernel_rfl) | ((with_reducible apply And.intro); focus omega) | (refine z5 hK ?_; clear hK; simp only [go_sem, *]) | simp only [z3, z4, go_sem, *])
 refine H8 (N := 26) (env := [(18, .fn 114 [.ptr 1 0]), (7, .ptr 2 0), (5, .ptr 0 0)]) (As := [o5 s, .box [.ptr 0 0], .box [.own 3 3 0 0], .row 3 []]) [some 1, some 3, some 2, none] [] (by (simp only [Weak, go_sem, List.map_append, List.map_set, *] <;> (try simp (disch := omega) only [y8]) <;> (try simp) <;> (try omega))) ?_
 refine zIL (f := 114) (caps := [.ptr 1 0]) rfl (by simp only [go_sem]) (by kernel_rfl) (nx := 4) (by simp only [go_sem]) (fun fn => ⟨5, ?_⟩)
 refine x8 [1, 0, 4, 2, 3] [] (s1 fn) (by simp) (by simp only [go_sem]) ?_ (by simp) (.inl rfl) (by simp [go_sem]) (by simp [go_sem]) ?_
 ·simp only [go_sem, *]
  rfl
 ·simp only [go_sem, *]
  refine ⟨e9 fn, [(7, .ptr 2 0)], none, by simp only [go_sem], ?_⟩
  simp only [go_sem]
  repeat' (first | (refine Qr rfl ?_; try intro _ hK; try simp only [go_sem, *]) | refine Qh rfl ?_ | refine Qd rfl (by kernel_rfl) ?_ | (refine Qc rfl rfl ?_ ?_ <;> (intro hb; have hc := hb; try simp only [go_sem] at hc)) | refine z6 rfl ?_ | (refine Qb ?_ ?_; focus kernel_rfl) | ((with_reducible apply And.intro); focus omega) | (refine z5 hK ?_; clear hK; simp only [go_sem, *]) | simp only [z3, z4, go_sem, *])
  refine ⟨[_, _, _], [some 0], [5], ⟨rfl, rfl, rfl, trivial⟩, ?_⟩
  simp only [go_sem, *]
  simp [List.take_of_length_le]
end Go.Abs

namespace Go.Abs
open Go Go.Proofs Tryz
attribute [local irreducible] q8 Hold y4
@[reducible] def l6 (l : List Int) : AV := .list (l.map iV)
attribute [go_sem] l6
theorem zId (a b : List Int) (h1 : a.length ≤ 4294967296) : zNV prog 65 [l6 a, l6 b] [] (bV (decide (a = b))) [] := by
 refine z9 func65 rfl (fun E hE => ?_); simp only [go_sem, ntmps65]
 repeat' (first | (refine Qr rfl ?_; try intro _ hK; try simp only [go_sem, *]) | refine Qh rfl ?_ | refine Qd rfl (by kernel_rfl) ?_ | (refine Qc rfl rfl ?_ ?_ <;> (intro hb; have hc := hb; try simp only [go_sem] at hc)) | refine z6 rfl ?_ | (refine Qb ?_ ?_; focus kernel_rfl) | ((with_reducible apply And.intro); focus omega) | (refine z5 hK ?_; clear hK; simp only [go_sem, *]) | simp only [z3, z4, go_sem, *])
 ·(refine ⟨[_], [], [], ⟨rfl, trivial⟩, ?_⟩; simp only [go_sem, *])
  simp [Q7 (a := a) (b := b) (by assumption)]
 ·have hlb : a.length = b.length := by assumption
  refine v5 rfl (b.length) (fun i => a.take i = b.take i) 26 (fun i => [(5, iV i), (0, l6 a), (1, l6 b)]) (fun i => []) [] [] (by simp) ?_; intro i hi hP
  repeat' (first | (refine Qr rfl ?_; try intro _ hK; try simp only [go_sem, *]) | refine Qh rfl ?_ | refine Qd rfl (by kernel_rfl) ?_ | (refine Qc rfl rfl ?_ ?_ <;> (intro hb; have hc := hb; try simp only [go_sem] at hc)) | refine z6 rfl ?_ | (refine Qb ?_ ?_; focus kernel_rfl) | ((with_reducible apply And.intro); focus omega) | (refine z5 hK ?_; clear hK; simp only [go_sem, *]) | simp only [z3, z4, go_sem, *])
  ·(refine ⟨[_], [], [], ⟨rfl, trivial⟩, ?_⟩; simp only [go_sem, *])
   simp [Y9 (a := a) (b := b) (i := i) (by assumption)]
  ·exact v4 (i' := i + 1) [] [] (by exact Y8 (by omega) (by omega) hP (by assumption))
  ·(refine ⟨[_], [], [], ⟨rfl, trivial⟩, ?_⟩; simp only [go_sem, *])
   simp [Y7 (by omega) hlb hP]
theorem zIe (a b : List (List Int)) (h1 : a.length ≤ 4294967296) (hrl : ∀ l, l ∈ a → l.length ≤ 4294967296) : zNV prog 33 [.list (a.map l6), .list (b.map l6)] [] (bV (decide (a = b))) [] := by
 refine z9 func33 rfl (fun E hE => ?_); simp only [go_sem, ntmps33]
 repeat' (first | (refine Qr rfl ?_; try intro _ hK; try simp only [go_sem, *]) | refine Qh rfl ?_ | refine Qd rfl (by kernel_rfl) ?_ | (refine Qc rfl rfl ?_ ?_ <;> (intro hb; have hc := hb; try simp only [go_sem] at hc)) | refine z6 rfl ?_ | (refine Qb ?_ ?_; focus kernel_rfl) | ((with_reducible apply And.intro); focus omega) | (refine z5 hK ?_; clear hK; simp only [go_sem, *]) | simp only [z3, z4, go_sem, *])
 ·(refine ⟨[_], [], [], ⟨rfl, trivial⟩, ?_⟩; simp only [go_sem, *])
  simp [Q7 (a := a) (b := b) (by assumption)]
 ·have hlb : a.length = b.length := by assumption
  refine v5 rfl (b.length) (fun i => a.take i = b.take i) 27 (fun i => [(5, iV i), (0, .list (a.map l6)), (1, .list (b.map l6))]) (fun i => []) [] [] (by simp) ?_; intro i hi hP
  repeat' (first | (refine Qr rfl ?_; try intro _ hK; try simp only [go_sem, *]) | refine Qh rfl ?_ | refine Qd rfl (by kernel_rfl) ?_ | (refine Qc rfl rfl ?_ ?_ <;> (intro hb; have hc := hb; try simp only [go_sem] at hc)) | refine z6 rfl ?_ | (refine Qb ?_ ?_; focus kernel_rfl) | (refine z8 (zId (List.getD a i default) (List.getD b i default) (hrl _ (w5 (by omega)))) ?_; simp only [go_sem, *]) | ((with_reducible apply And.intro); focus omega) | (refine z5 hK ?_; clear hK; simp only [go_sem, *]) | simp only [z3, z4, go_sem, *])
  ·(refine ⟨[_], [], [], ⟨rfl, trivial⟩, ?_⟩; simp only [go_sem, *])
   simp [Y9 (a := a) (b := b) (i := i) (by assumption)]
  ·exact v4 (i' := i + 1) [] [] (by exact Y8 (by omega) (by omega) hP (by assumption))
  ·(refine ⟨[_], [], [], ⟨rfl, trivial⟩, ?_⟩; simp only [go_sem, *])
   simp [Y7 (by omega) hlb hP]
theorem zIf (a b : List House) (h1 : a.length ≤ 4294967296) : zNV prog 28 [X4 a, X4 b] [] (bV (decide (a = b))) [] := by
 refine z9 func28 rfl (fun E hE => ?_); simp only [go_sem, ntmps28]
 repeat' (first | (refine Qr rfl ?_; try intro _ hK; try simp only [go_sem, *]) | refine Qh rfl ?_ | refine Qd rfl (by kernel_rfl) ?_ | (refine Qc rfl rfl ?_ ?_ <;> (intro hb; have hc := hb; try simp only [go_sem] at hc)) | refine z6 rfl ?_ | (refine Qb ?_ ?_; focus kernel_rfl) | ((with_reducible apply And.intro); focus omega) | (refine z5 hK ?_; clear hK; simp only [go_sem, *]) | simp only [z3, z4, go_sem, *])
 ·(refine ⟨[_], [], [], ⟨rfl, trivial⟩, ?_⟩; simp only [go_sem, *])
  simp [Q7 (a := a) (b := b) (by assumption)]
 ·have hlb : a.length = b.length := by assumption
  refine v5 rfl (b.length) (fun i => a.take i = b.take i) 26 (fun i => [(5, iV i), (0, X4 a), (1, X4 b)]) (fun i => []) [] [] (by simp) ?_; intro i hi hP
  repeat' (first | (refine Qr rfl ?_; try intro _ hK; try simp only [go_sem, *]) | refine Qh rfl ?_ | refine Qd rfl (by kernel_rfl) ?_ | (refine Qc rfl rfl ?_ ?_ <;> (intro hb; have hc := hb; try simp only [go_sem] at hc)) | refine z6 rfl ?_ | (refine Qb ?_ ?_; focus kernel_rfl) | ((with_reducible apply And.intro); focus omega) | (refine z5 hK ?_; clear hK; simp only [go_sem, *]) | simp only [z3, z4, go_sem, *])
  ·(refine ⟨[_], [], [], ⟨rfl, trivial⟩, ?_⟩; simp only [go_sem, *])
   simp [Y9 (a := a) (b := b) (i := i) (by assumption)]
  ·exact v4 (i' := i + 1) [] [] (by exact Y8 (by omega) (by omega) hP (by assumption))
  ·(refine ⟨[_], [], [], ⟨rfl, trivial⟩, ?_⟩; simp only [go_sem, *])
   simp [Y7 (by omega) hlb hP]
theorem zIc (a b : List Change) (h1 : a.length ≤ 4294967296) : zNV prog 42 [.list (a.map Change.enc), .list (b.map Change.enc)] [] (bV (decide (a = b))) [] := by
 refine z9 func42 rfl (fun E hE => ?_); simp only [go_sem, ntmps42]
 repeat' (first | (refine Qr rfl ?_; try intro _ hK; try simp only [go_sem, *]) | refine Qh rfl ?_ | refine Qd rfl (by kernel_rfl) ?_ | (refine Qc rfl rfl ?_ ?_ <;> (intro hb; have hc := hb; try simp only [go_sem] at hc)) | refine z6 rfl ?_ | (refine Qb ?_ ?_; focus kernel_rfl) | ((with_reducible apply And.intro); focus omega) | (refine z5 hK ?_; clear hK; simp only [go_sem, *]) | simp only [z3, z4, go_sem, *])
 ·(refine ⟨[_], [], [], ⟨rfl, trivial⟩, ?_⟩; simp only [go_sem, *])
  simp [Q7 (a := a) (b := b) (by assumption)]
 ·have hlb : a.length = b.length := by assumption
  refine v5 rfl (b.length) (fun i => a.take i = b.take i) 26 (fun i => [(5, iV i), (0, .list (a.map Change.enc)), (1, .list (b.map Change.enc))]) (fun i => []) [] [] (by simp) ?_; intro i hi hP
  repeat' (first | (refine Qr rfl ?_; try intro _ hK; try simp only [go_sem, *]) | refine Qh rfl ?_ | refine Qd rfl (by kernel_rfl) ?_ | (refine Qc rfl rfl ?_ ?_ <;> (intro hb; have hc := hb; try simp only [go_sem] at hc)) | refine z6 rfl ?_ | (refine Qb ?_ ?_; focus kernel_rfl) | ((with_reducible apply And.intro); focus omega) | (refine z5 hK ?_; clear hK; simp only [go_sem, *]) | simp only [z3, z4, go_sem, *])
  ·(refine ⟨[_], [], [], ⟨rfl, trivial⟩, ?_⟩; simp only [go_sem, *])
   simp [Y9 (a := a) (b := b) (i := i) (by assumption)]
  ·exact v4 (i' := i + 1) [] [] (by exact Y8 (by omega) (by omega) hP (by assumption))
  ·(refine ⟨[_], [], [], ⟨rfl, trivial⟩, ?_⟩; simp only [go_sem, *])
   simp [Y7 (by omega) hlb hP]
theorem zC4 (a b : zNU) (h1 : a.length ≤ 4294967296) (hrl : ∀ l, l ∈ a → l.length ≤ 4294967296) : zNV prog 16 [y3 a, y3 b] [] (bV (decide (a = b))) [] := by
 refine z9 func16 rfl (fun E hE => ?_); simp only [go_sem, ntmps16]
 repeat' (first | (refine Qr rfl ?_; try intro _ hK; try simp only [go_sem, *]) | refine Qh rfl ?_ | refine Qd rfl (by kernel_rfl) ?_ | (refine Qc rfl rfl ?_ ?_ <;> (intro hb; have hc := hb; try simp only [go_sem] at hc)) | refine z6 rfl ?_ | (refine Qb ?_ ?_; focus kernel_rfl) | ((with_reducible apply And.intro); focus omega) | (refine z5 hK ?_; clear hK; simp only [go_sem, *]) | simp only [z3, z4, go_sem, *])
 ·(refine ⟨[_], [], [], ⟨rfl, trivial⟩, ?_⟩; simp only [go_sem, *])
  simp [Q7 (a := a) (b := b) (by assumption)]
 ·have hlb : a.length = b.length := by assumption
  refine v5 rfl (b.length) (fun i => a.take i = b.take i) 61 (fun i => [(5, iV i), (2, .ptr 0 0), (3, .ptr 1 0)]) (fun i => [zNi a, zNi b]) [some 0, some 1] [] (by simp) ?_; intro i hi hP
  by_cases hi2 : i < b.length
  ·have hra := hrl _ (w5 (l := a) (i := i) (by omega))
   have hia : i < a.length := by omega
   obtain ⟨e1, he1⟩ : ∃ e1, e1 = a.getD i default := ⟨_, rfl⟩
   obtain ⟨e2, he2⟩ : ∃ e2, e2 = b.getD i default := ⟨_, rfl⟩
   have nx0 : e1 = e2 → a.take (i + 1) = b.take (i + 1) := fun e => Y8 (by omega) (by omega) hP (by rw [← he1, ← he2]; exact e)
   have no0 : ¬ e1 = e2 → ¬ a = b := fun e => Y9 (i := i) (by rw [← he1, ← he2]; exact e)
   rw [← he1] at hra
   repeat' (first | (refine Qr rfl ?_; try intro _ hK; try simp only [go_sem, *]) | refine Qh rfl ?_ | refine Qd rfl (by kernel_rfl) ?_ | (refine Qc rfl rfl ?_ ?_ <;> (intro hb; have hc := hb; try simp only [go_sem] at hc)) | refine z6 rfl ?_ | (refine Qb ?_ ?_; focus kernel_rfl) | ((with_reducible apply And.intro); focus omega) | (refine z5 hK ?_; clear hK; simp only [go_sem, *]) | simp only [z3, z4, go_sem, *])
   ·rw [← he1, ← he2] at *
    (refine ⟨[_], [], [], ⟨rfl, trivial⟩, ?_⟩; simp only [go_sem, *])
    simp [no0 (Q7 (by assumption))]
   ·have hl2 : (a.getD i default).length = (b.getD i default).length := by assumption
    have hkb : (b.getD i default).length ≤ 4294967296 := by rw [← hl2, ← he1]; exact hra
    refine v5 rfl ((b.getD i default).length) (fun k => (a.getD i default).take k = (b.getD i default).take k) 61 (fun k => [(6, iV k), (5, iV i), (2, .ptr 0 0), (3, .ptr 1 0)]) (fun k => [zNi a, zNi b]) [some 0, some 1] [] (by simp) ?_; intro k hk hQ
    repeat' (first | (refine Qr rfl ?_; try intro _ hK; try simp only [go_sem, *]) | refine Qh rfl ?_ | refine Qd rfl (by kernel_rfl) ?_ | (refine Qc rfl rfl ?_ ?_ <;> (intro hb; have hc := hb; try simp only [go_sem] at hc)) | refine z6 rfl ?_ | (refine Qb ?_ ?_; focus kernel_rfl) | ((with_reducible apply And.intro); focus omega) | (refine z5 hK ?_; clear hK; simp only [go_sem, *]) | simp only [z3, z4, go_sem, *])
    ·(refine ⟨[_], [], [], ⟨rfl, trivial⟩, ?_⟩; simp only [go_sem, *])
     simp [no0 (by rw [he1, he2]; exact Y9 (i := k) (by assumption))]
    ·exact v4 (i' := k + 1) [some 0, some 1] [] (by exact Y8 (by omega) (by omega) hQ (by assumption))
    ·exact v4 (i' := i + 1) [some 0, some 1] [] (by exact nx0 (by rw [he1, he2]; exact Y7 (by omega) hl2 hQ))
  ·repeat' (first | (refine Qr rfl ?_; try intro _ hK; try simp only [go_sem, *]) | refine Qh rfl ?_ | refine Qd rfl (by kernel_rfl) ?_ | (refine Qc rfl rfl ?_ ?_ <;> (intro hb; have hc := hb; try simp only [go_sem] at hc)) | refine z6 rfl ?_ | (refine Qb ?_ ?_; focus kernel_rfl) | ((with_reducible apply And.intro); focus omega) | (refine z5 hK ?_; clear hK; simp only [go_sem, *]) | simp only [z3, z4, go_sem, *])
   (refine ⟨[_], [], [], ⟨rfl, trivial⟩, ?_⟩; simp only [go_sem, *])
   simp [Y7 (by omega) hlb hP]
theorem E7 (l : List Int) (h1 : l.length ≤ 1000) : zNV prog 20 [l6 l] [] (q9 (zNq l)) [] := by
 refine z9 func20 rfl (fun E hE => ?_); simp only [go_sem, ntmps20]
 repeat' (first | (refine Qr rfl ?_; try intro _ hK; try simp only [go_sem, *]) | refine Qh rfl ?_ | (refine Qc rfl rfl ?_ ?_ <;> (intro hb; have hc := hb; try simp only [go_sem] at hc)) | refine z6 rfl ?_ | ((with_reducible apply And.intro); focus omega) | (refine z5 hK ?_; clear hK; simp only [go_sem, *]) | simp only [z3, z4, go_sem, *])
 refine v9 rfl (l.length) (fun i (acc : List Plate) => acc ++ zNq (l.drop i) = zNq l) 20 (fun i acc => [(4, iV i), (3, .own 0 2 0 acc.length), (0, l6 l)]) (fun i acc => [.row 2 (acc.map Plate.enc)]) [none] [] ([]) (by simp) ?_; intro i acc hi hP
 have hlen := congrArg List.length hP
 simp only [zNq, List.length_append, List.length_map, List.length_drop] at hlen
 repeat' (first | (refine Qr rfl ?_; try intro _ hK; try simp only [go_sem, *]) | refine Qh rfl ?_ | (refine Qc rfl rfl ?_ ?_ <;> (intro hb; have hc := hb; try simp only [go_sem] at hc)) | refine z6 rfl ?_ | ((with_reducible apply And.intro); focus omega) | (refine z5 hK ?_; clear hK; simp only [go_sem, *]) | simp only [z3, z4, go_sem, *])
 ·have hi2 : i < l.length := by assumption
  exact x9 (i' := i + 1) [some 2] [] (acc ++ [⟨l.getD i default, 0⟩]) (by rw [← hP, v3 hi2]; simp [zNq])
 ·rw [u0 (by omega)] at hP
  have hP2 : acc = zNq l := by simpa [zNq] using hP
  subst hP2
  refine ⟨[_], [], [0], ⟨rfl, trivial⟩, ?_⟩
  simp only [go_sem, *]
  simp [List.take_of_length_le]
theorem zAx (a b c : List Plate) : zNV prog 19 [q9 a, q9 b, q9 c] [] (y3 [a, b, c]) [] := by
 refine z9 func19 rfl (fun E hE => ?_); simp only [go_sem, ntmps19]
 repeat' (first | (refine Qr rfl ?_; try intro _ hK; try simp only [go_sem, *]) | refine Qh rfl ?_ | (refine Qc rfl rfl ?_ ?_ <;> (intro hb; have hc := hb; try simp only [go_sem] at hc)) | refine z6 rfl ?_ | ((with_reducible apply And.intro); focus omega) | (refine z5 hK ?_; clear hK; simp only [go_sem, *]) | simp only [z3, z4, go_sem, *])
 refine ⟨[.agg [.own 1 1 0 3]], [], [1], ⟨by simp only [x7, go_sem], trivial⟩, ?_⟩
 simp only [go_sem, *]
theorem zAv (s n : Int) : zNV prog 25 [iV s, iV n] [] (atX s n).enc [] := by
 refine z9 func25 rfl (fun E hE => ?_); simp only [go_sem, ntmps25]
 repeat' (first | (refine Qr rfl ?_; try intro _ hK; try simp only [go_sem, *]) | refine Qh rfl ?_ | (refine Qc rfl rfl ?_ ?_ <;> (intro hb; have hc := hb; try simp only [go_sem] at hc)) | refine z6 rfl ?_ | ((with_reducible apply And.intro); focus omega) | (refine z5 hK ?_; clear hK; simp only [go_sem, *]) | simp only [z3, z4, go_sem, *])
 refine ⟨[(atX s n).enc], [], [], ⟨(by simp only [x7, go_sem, atX]), trivial⟩, ?_⟩; simp only [go_sem, *]
theorem zDG (s o : Int) : zNV prog 24 [iV s, iV o] [] (Change.enc ⟨4, s, o, zeroPlate, zeroPlate⟩) [] := by
 refine z9 func24 rfl (fun E hE => ?_); simp only [go_sem, ntmps24]
 repeat' (first | (refine Qr rfl ?_; try intro _ hK; try simp only [go_sem, *]) | refine Qh rfl ?_ | (refine Qc rfl rfl ?_ ?_ <;> (intro hb; have hc := hb; try simp only [go_sem] at hc)) | refine z6 rfl ?_ | ((with_reducible apply And.intro); focus omega) | (refine z5 hK ?_; clear hK; simp only [go_sem, *]) | simp only [z3, z4, go_sem, *])
 refine ⟨[Change.enc ⟨4, s, o, zeroPlate, zeroPlate⟩], [], [], ⟨(by simp only [x7, go_sem, zeroPlate]), trivial⟩, ?_⟩; simp only [go_sem, *]
theorem zJV (s : Int) : zNV prog 27 [iV s] [] (Change.enc ⟨1, s, 0, zeroPlate, zeroPlate⟩) [] := by
 refine z9 func27 rfl (fun E hE => ?_); simp only [go_sem, ntmps27]
 repeat' (first | (refine Qr rfl ?_; try intro _ hK; try simp only [go_sem, *]) | refine Qh rfl ?_ | (refine Qc rfl rfl ?_ ?_ <;> (intro hb; have hc := hb; try simp only [go_sem] at hc)) | refine z6 rfl ?_ | ((with_reducible apply And.intro); focus omega) | (refine z5 hK ?_; clear hK; simp only [go_sem, *]) | simp only [z3, z4, go_sem, *])
 refine ⟨[Change.enc ⟨1, s, 0, zeroPlate, zeroPlate⟩], [], [], ⟨(by simp only [x7, go_sem, zeroPlate]), trivial⟩, ?_⟩; simp only [go_sem, *]
theorem zJP (s : Int) : zNV prog 21 [iV s] [] (Change.enc ⟨2, s, 0, zeroPlate, zeroPlate⟩) [] := by
 refine z9 func21 rfl (fun E hE => ?_); simp only [go_sem, ntmps21]
 repeat' (first | (refine Qr rfl ?_; try intro _ hK; try simp only [go_sem, *]) | refine Qh rfl ?_ | (refine Qc rfl rfl ?_ ?_ <;> (intro hb; have hc := hb; try simp only [go_sem] at hc)) | refine z6 rfl ?_ | ((with_reducible apply And.intro); focus omega) | (refine z5 hK ?_; clear hK; simp only [go_sem, *]) | simp only [z3, z4, go_sem, *])
 refine ⟨[Change.enc ⟨2, s, 0, zeroPlate, zeroPlate⟩], [], [], ⟨(by simp only [x7, go_sem, zeroPlate]), trivial⟩, ?_⟩; simp only [go_sem, *]
theorem zJI (k s n : Int) : zNV prog 22 [iV k, iV s, iV n] [] (Change.enc ⟨k, s, 0, ⟨n, 0⟩, zeroPlate⟩) [] := by
 refine z9 func22 rfl (fun E hE => ?_); simp only [go_sem, ntmps22]
 repeat' (first | (refine Qr rfl ?_; try intro _ hK; try simp only [go_sem, *]) | refine Qh rfl ?_ | (refine Qc rfl rfl ?_ ?_ <;> (intro hb; have hc := hb; try simp only [go_sem] at hc)) | refine z6 rfl ?_ | ((with_reducible apply And.intro); focus omega) | (refine z5 hK ?_; clear hK; simp only [go_sem, *]) | simp only [z3, z4, go_sem, *])
 refine ⟨[Change.enc ⟨k, s, 0, ⟨n, 0⟩, zeroPlate⟩], [], [], ⟨(by simp only [x7, go_sem, zeroPlate]), trivial⟩, ?_⟩; simp only [go_sem, *]
theorem zDJ : zNV prog 18 [] [] (y3 townX) [] := by
 have s1 := E7 [1, 2, 3, 4, 5] (by decide)
 have s2 := E7 [1, 2] (by decide)
 have s3 := zAx (zNq [1, 2, 3, 4, 5]) (zNq [1, 2]) []
 refine z9 func18 rfl (fun E hE => ?_); simp only [go_sem, ntmps18]
 repeat' (first | (refine Qr rfl ?_; try intro _ hK; try simp only [go_sem, *]) | refine Qh rfl ?_ | (refine Qc rfl rfl ?_ ?_ <;> (intro hb; have hc := hb; try simp only [go_sem] at hc)) | refine z6 rfl ?_ | ((with_reducible apply And.intro); focus omega) | (refine z5 hK ?_; clear hK; simp only [go_sem, *]) | simp only [z3, z4, go_sem, *])
 (refine o3 (s1) (by simp only [go_sem, *]; done) rfl (by simp only [go_sem]; done) (by simp) (by simp) ?_; simp only [go_sem, w6, *])
 repeat' (first | (refine Qr rfl ?_; try intro _ hK; try simp only [go_sem, *]) | refine Qh rfl ?_ | (refine Qc rfl rfl ?_ ?_ <;> (intro hb; have hc := hb; try simp only [go_sem] at hc)) | refine z6 rfl ?_ | ((with_reducible apply And.intro); focus omega) | (refine z5 hK ?_; clear hK; simp only [go_sem, *]) | simp only [z3, z4, go_sem, *])
 (refine o3 (s2) (by simp only [go_sem, *]; done) rfl (by simp only [go_sem]; done) (by simp) (by simp) ?_; simp only [go_sem, w6, *])
 repeat' (first | (refine Qr rfl ?_; try intro _ hK; try simp only [go_sem, *]) | refine Qh rfl ?_ | (refine Qc rfl rfl ?_ ?_ <;> (intro hb; have hc := hb; try simp only [go_sem] at hc)) | refine z6 rfl ?_ | ((with_reducible apply And.intro); focus omega) | (refine z5 hK ?_; clear hK; simp only [go_sem, *]) | simp only [z3, z4, go_sem, *])
 (refine o3 (s3) (by simp only [go_sem, *]; done) rfl (by simp only [go_sem]; done) (by simp) (by simp) ?_; simp only [go_sem, w6, *])
 repeat' (first | (refine Qr rfl ?_; try intro _ hK; try simp only [go_sem, *]) | refine Qh rfl ?_ | (refine Qc rfl rfl ?_ ?_ <;> (intro hb; have hc := hb; try simp only [go_sem] at hc)) | refine z6 rfl ?_ | ((with_reducible apply And.intro); focus omega) | (refine z5 hK ?_; clear hK; simp only [go_sem, *]) | simp only [z3, z4, go_sem, *])
 refine ⟨[y3 townX], [], [], ⟨(by simp only [x7, go_sem, townX]), trivial⟩, ?_⟩; simp only [go_sem, *]
theorem zJR : zNV prog 31 [.list []] [] taleX.enc [] := by
 refine z9 func31 rfl (fun E hE => ?_); simp only [go_sem, ntmps31]
 repeat' (first | (refine Qr rfl ?_; try intro _ hK; try simp only [go_sem, *]) | refine Qh rfl ?_ | (refine Qc rfl rfl ?_ ?_ <;> (intro hb; have hc := hb; try simp only [go_sem] at hc)) | refine z6 rfl ?_ | ((first | refine z8 (zDJ) ?_ | refine z8 (zJV 0) ?_ | refine z8 (zJP 0) ?_ | refine z8 (zDG 1 0) ?_); simp only [go_sem, *]) | ((with_reducible apply And.intro); focus omega) | (refine z5 hK ?_; clear hK; simp only [go_sem, *]) | simp only [z3, z4, go_sem, *])
 refine ⟨[.agg [.list (townX.map q9), .own 3 1 0 2, .list []]], [], [3], ⟨by simp only [x7, go_sem], trivial⟩, ?_⟩
 simp only [go_sem, *]
 exact ⟨rfl, rfl, rfl⟩
end Go.Abs

namespace Go.Abs
open Go Go.Proofs Tryz
attribute [local irreducible] q8 Hold y4
theorem zIh (a b : List House) (h1 : a.length ≤ 4294967296) : zNV prog 97 [.list (a.map House.enc), .list (b.map House.enc)] [] (bV (decide (a = b))) [] := by
 refine z9 func97 rfl (fun E hE => ?_); simp only [go_sem, ntmps97]
 repeat' (first | (refine Qr rfl ?_; try intro _ hK; try simp only [go_sem, *]) | refine Qh rfl ?_ | refine Qd rfl (by kernel_rfl) ?_ | (refine Qc rfl rfl ?_ ?_ <;> (intro hb; have hc := hb; try simp only [go_sem] at hc)) | refine z6 rfl ?_ | (refine Qb ?_ ?_; focus kernel_rfl) | ((with_reducible apply And.intro); focus omega) | (refine z5 hK ?_; clear hK; simp only [go_sem, *]) | simp only [z3, z4, go_sem, *])
 ·(refine ⟨[_], [], [], ⟨rfl, trivial⟩, ?_⟩; simp only [go_sem, *])
  simp [Q7 (a := a) (b := b) (by assumption)]
 ·have hlb : a.length = b.length := by assumption
  refine v5 rfl (b.length) (fun i => a.take i = b.take i) 26 (fun i => [(13, iV i), (12, iV b.length), (0, .list (a.map House.enc)), (1, .list (b.map House.enc))]) (fun i => []) [] [] (by simp) ?_; intro i hi hP
  repeat' (first | (refine Qr rfl ?_; try intro _ hK; try simp only [go_sem, *]) | refine Qh rfl ?_ | refine Qd rfl (by kernel_rfl) ?_ | (refine Qc rfl rfl ?_ ?_ <;> (intro hb; have hc := hb; try simp only [go_sem] at hc)) | refine z6 rfl ?_ | (refine Qb ?_ ?_; focus kernel_rfl) | ((with_reducible apply And.intro); focus omega) | (refine z5 hK ?_; clear hK; simp only [go_sem, *]) | simp only [z3, z4, go_sem, *])
  ·(refine ⟨[_], [], [], ⟨rfl, trivial⟩, ?_⟩; simp only [go_sem, *])
   simp [Y9 (a := a) (b := b) (i := i) (by assumption)]
  ·exact v4 (i' := i + 1) [] [] (by exact Y8 (by omega) (by omega) hP (by assumption))
  ·(refine ⟨[_], [], [], ⟨rfl, trivial⟩, ?_⟩; simp only [go_sem, *])
   simp [Y7 (by omega) hlb hP]
theorem zHC (m c : Nat) : zOX (m : Int) (c : Int) = ((max m c : Nat) : Int) := by unfold zOX; split <;> omega
theorem zFv {α : Type} [Inhabited α] {l : List α} {f : Nat → α → Nat} {i m : Nat} (hi : i < l.length) : (l.drop i).foldl f m = (l.drop (i + 1)).foldl f (f m (l.getD i default)) := by
 rw [v3 hi, List.foldl_cons]
theorem zEp {α : Type} [Inhabited α] {l : List α} {f : α → Bool} {i : Nat} (hi : i < l.length) : (l.drop i).countP f = (if f (l.getD i default) = true then 1 else 0) + (l.drop (i + 1)).countP f := by
 rw [v3 hi, List.countP_cons]; omega
theorem zC0 (l : List Truth) (h : House) (x : Truth) : c8 l h x ≤ l.length := List.countP_le_length
theorem zBr (l : List Truth) (h : House) : o4 l h ≤ l.length := by
 unfold o4
 have key : ∀ (r : List Truth) (m : Nat), m ≤ l.length → r.foldl (fun m x => max m (c8 l h x)) m ≤ l.length := fun r => by
  induction r with
  | nil => intro m hm; exact hm
  | cons x r ih =>
   intro m hm
   have h1 := zC0 l h x
   have h2 : max m (c8 l h x) ≤ l.length := by omega
   exact ih _ h2
 exact key l 0 (by omega)
theorem zI5 (p : zNU) (l : List Truth) (h : House) (v : Valid p) (hh : h ∈ q6 p) (hl : l.length ≤ 1000) (hnl : ∀ t, t ∈ l → (t.now h).length ≤ 1000) :
  zNV prog 66 [.list (l.map (Truth.enc p)), h.enc] [] (iV (o4 l h)) [] := by
 have hw := v.wf
 have hwf := hw _ hh
 have hG0 : (l.drop 0).foldl (fun m x => max m (c8 l h x)) 0 = o4 l h := rfl
 have hGl := zBr l h
 generalize o4 l h = G at *
 refine z9 func66 rfl (fun E hE => ?_); simp only [go_sem, ntmps66]
 repeat' (first | (refine Qr rfl ?_; try intro _ hK; try simp only [go_sem, *]) | refine Qh rfl ?_ | refine Qd rfl (by kernel_rfl) ?_ | (refine Qc rfl rfl ?_ ?_ <;> (intro hb; have hc := hb; try simp only [go_sem] at hc)) | refine z6 rfl ?_ | (refine Qb ?_ ?_; focus kernel_rfl) | ((with_reducible apply And.intro); focus omega) | (refine z5 hK ?_; clear hK; simp only [go_sem, *]) | simp only [z3, z4, go_sem, *])
 refine v9 rfl (l.length) (fun i (m : Nat) => (l.drop i).foldl (fun m x => max m (c8 l h x)) m = G) 40 (fun i m => [(13, iV i), (12, iV l.length), (11, .list (l.map (Truth.enc p))), (0, .list (l.map (Truth.enc p))), (5, iV m), (3, .ptr 0 0)]) (fun i m => [.box [iV h.street, iV h.plate.number, iV h.plate.letter]]) [some 0] [] (0) (by exact hG0) ?_; intro i m hi hP
 by_cases hi2 : i < l.length
 ·rw [zFv hi2] at hP
  have hxl := hnl _ (w5 hi2)
  repeat' (first | (refine Qr rfl ?_; try intro _ hK; try simp only [go_sem, *]) | refine Qh rfl ?_ | refine Qd rfl (by kernel_rfl) ?_ | (refine Qc rfl rfl ?_ ?_ <;> (intro hb; have hc := hb; try simp only [go_sem] at hc)) | refine z6 rfl ?_ | (refine Qb ?_ ?_; focus kernel_rfl) | ((with_reducible apply And.intro); focus omega) | (refine z5 hK ?_; clear hK; simp only [go_sem, *]) | simp only [z3, z4, go_sem, *])
  generalize hx : l.getD i default = x at *
  refine v9 rfl (l.length) (fun j (n : Nat) => n + (l.drop j).countP (fun y => decide (x.now h = y.now h)) = c8 l h x) 40 (fun j n => [(19, iV j), (18, iV l.length), (17, .list (l.map (Truth.enc p))), (8, iV n), (7, .ptr 1 0), (13, iV i), (12, iV l.length), (11, .list (l.map (Truth.enc p))), (0, .list (l.map (Truth.enc p))), (5, iV m), (3, .ptr 0 0)]) (fun j n => [.box [iV h.street, iV h.plate.number, iV h.plate.letter], .box [.list (x.ways.map iV), .list (x.fin.map q9), .fmap (y7 p) (y6 p x.now)]]) [some 0, some 1] [] (0) (by simp [c8]) ?_; intro j n hj hQ
  by_cases hj2 : j < l.length
  ·rw [zEp hj2] at hQ
   have hyl := hnl _ (w5 hj2)
   have hsl := zC0 l h x
   generalize hy : l.getD j default = y at *
   have sc := zIh (x.now h) (y.now h) (by omega)
   by_cases q : x.now h = y.now h
   ·have q' : decide (x.now h = y.now h) = true := by simpa using q
    rw [q'] at sc hQ
    clear q q'
    repeat' (first | (refine Qr rfl ?_; try intro _ hK; try simp only [go_sem, *]) | refine Qh rfl ?_ | refine Qd rfl (by kernel_rfl) ?_ | (refine Qc rfl rfl ?_ ?_ <;> (intro hb; have hc := hb; try simp only [go_sem] at hc)) | refine z6 rfl ?_ | (refine Qb ?_ ?_; focus kernel_rfl) | ((with_reducible apply And.intro); focus omega) | (refine z5 hK ?_; clear hK; simp only [go_sem, *]) | simp only [z3, z4, go_sem, *])
    refine W5 (h := h) (hs := q6 p) (F := zNY x.now) hw hwf ?_
    rw [if_pos hh, zNY]
    repeat' (first | (refine Qr rfl ?_; try intro _ hK; try simp only [go_sem, *]) | refine Qh rfl ?_ | refine Qd rfl (by kernel_rfl) ?_ | (refine Qc rfl rfl ?_ ?_ <;> (intro hb; have hc := hb; try simp only [go_sem] at hc)) | refine z6 rfl ?_ | (refine Qb ?_ ?_; focus kernel_rfl) | ((with_reducible apply And.intro); focus omega) | (refine z5 hK ?_; clear hK; simp only [go_sem, *]) | simp only [z3, z4, go_sem, *])
    refine W5 (h := h) (hs := q6 p) (F := zNY y.now) hw hwf ?_
    rw [if_pos hh, zNY]
    repeat' (first | (refine Qr rfl ?_; try intro _ hK; try simp only [go_sem, *]) | refine Qh rfl ?_ | refine Qd rfl (by kernel_rfl) ?_ | (refine Qc rfl rfl ?_ ?_ <;> (intro hb; have hc := hb; try simp only [go_sem] at hc)) | refine z6 rfl ?_ | (refine Qb ?_ ?_; focus kernel_rfl) | (refine z8 (sc) ?_; simp only [go_sem, *]) | ((with_reducible apply And.intro); focus omega) | (refine z5 hK ?_; clear hK; simp only [go_sem, *]) | simp only [z3, z4, go_sem, *])
    all_goals try contradiction
    exact x9 (i' := j + 1) [some 0, some 1] [] (n + 1) (by rw [← hQ]; simp; omega)
   ·have q' : decide (x.now h = y.now h) = false := by simpa using q
    rw [q'] at sc hQ
    clear q q'
    repeat' (first | (refine Qr rfl ?_; try intro _ hK; try simp only [go_sem, *]) | refine Qh rfl ?_ | refine Qd rfl (by kernel_rfl) ?_ | (refine Qc rfl rfl ?_ ?_ <;> (intro hb; have hc := hb; try simp only [go_sem] at hc)) | refine z6 rfl ?_ | (refine Qb ?_ ?_; focus kernel_rfl) | ((with_reducible apply And.intro); focus omega) | (refine z5 hK ?_; clear hK; simp only [go_sem, *]) | simp only [z3, z4, go_sem, *])
    refine W5 (h := h) (hs := q6 p) (F := zNY x.now) hw hwf ?_
    rw [if_pos hh, zNY]
    repeat' (first | (refine Qr rfl ?_; try intro _ hK; try simp only [go_sem, *]) | refine Qh rfl ?_ | refine Qd rfl (by kernel_rfl) ?_ | (refine Qc rfl rfl ?_ ?_ <;> (intro hb; have hc := hb; try simp only [go_sem] at hc)) | refine z6 rfl ?_ | (refine Qb ?_ ?_; focus kernel_rfl) | ((with_reducible apply And.intro); focus omega) | (refine z5 hK ?_; clear hK; simp only [go_sem, *]) | simp only [z3, z4, go_sem, *])
    refine W5 (h := h) (hs := q6 p) (F := zNY y.now) hw hwf ?_
    rw [if_pos hh, zNY]
    repeat' (first | (refine Qr rfl ?_; try intro _ hK; try simp only [go_sem, *]) | refine Qh rfl ?_ | refine Qd rfl (by kernel_rfl) ?_ | (refine Qc rfl rfl ?_ ?_ <;> (intro hb; have hc := hb; try simp only [go_sem] at hc)) | refine z6 rfl ?_ | (refine Qb ?_ ?_; focus kernel_rfl) | (refine z8 (sc) ?_; simp only [go_sem, *]) | ((with_reducible apply And.intro); focus omega) | (refine z5 hK ?_; clear hK; simp only [go_sem, *]) | simp only [z3, z4, go_sem, *])
    all_goals try contradiction
    exact x9 (i' := j + 1) [some 0, some 1] [] (n) (by rw [← hQ]; simp)
  ·rw [u0 (by omega)] at hQ
   have hn : n = c8 l h x := by simpa using hQ
   subst hn
   have hmx := zHC m (c8 l h x)
   repeat' (first | (refine Qr rfl ?_; try intro _ hK; try simp only [go_sem, *]) | refine Qh rfl ?_ | refine Qd rfl (by kernel_rfl) ?_ | (refine Qc rfl rfl ?_ ?_ <;> (intro hb; have hc := hb; try simp only [go_sem] at hc)) | refine z6 rfl ?_ | (refine Qb ?_ ?_; focus kernel_rfl) | ((with_reducible apply And.intro); focus omega) | (refine z5 hK ?_; clear hK; simp only [go_sem, *]) | simp only [z3, z4, go_sem, *])
   exact x9 (i' := i + 1) [some 0] [] (max m (c8 l h x)) (by exact hP)
 ·rw [u0 (by omega)] at hP
  have hP2 : m = G := hP
  subst hP2
  repeat' (first | (refine Qr rfl ?_; try intro _ hK; try simp only [go_sem, *]) | refine Qh rfl ?_ | refine Qd rfl (by kernel_rfl) ?_ | (refine Qc rfl rfl ?_ ?_ <;> (intro hb; have hc := hb; try simp only [go_sem] at hc)) | refine z6 rfl ?_ | (refine Qb ?_ ?_; focus kernel_rfl) | ((with_reducible apply And.intro); focus omega) | (refine z5 hK ?_; clear hK; simp only [go_sem, *]) | simp only [z3, z4, go_sem, *])
  (refine ⟨[_], [], [], ⟨rfl, trivial⟩, ?_⟩; simp only [go_sem, *])
theorem zIV (a b : Int) : zNV prog 68 [iV a, iV b] [] (iV (IntKind.i64.wrap (a - b))) [] := by
 refine z9 func68 rfl (fun E hE => ?_); simp only [go_sem, ntmps68]
 repeat' (first | (refine Qr rfl ?_; try intro _ hK; try simp only [go_sem, *]) | refine Qh rfl ?_ | (refine Qc rfl rfl ?_ ?_ <;> (intro hb; have hc := hb; try simp only [go_sem] at hc)) | refine z6 rfl ?_ | ((with_reducible apply And.intro); focus omega) | (refine z5 hK ?_; clear hK; simp only [go_sem, *]) | simp only [z3, z4, go_sem, *])
 (refine ⟨[_], [], [], ⟨rfl, trivial⟩, ?_⟩; simp only [go_sem, *])
theorem zGr {g : List Nat} {i : Nat} {a : Int} (hi : i < g.length) : Z0 g (g.drop i) i a = Z0 g (g.drop (i + 1)) (i + 1) (if a < 0 ∨ g.getD i default < g.getD a.toNat 0 then i else a) := by
 rw [v3 hi, Z0]
theorem zCE (g : List Nat) : ∀ (r : List Nat) (i : Nat) (a : Int), r.length + i = g.length → -1 ≤ a ∧ a < g.length → -1 ≤ Z0 g r i a ∧ Z0 g r i a < g.length
 | [], _, a, _, h => h
 | x :: r, i, a, hl, h => by
  rw [Z0]
  refine zCE g r (i + 1) _ (by simp at hl; omega) ?_
  split
  ·simp at hl; omega
  ·exact h
theorem zGs {g : List Nat} (h : 0 < g.length) : -1 ≤ c5 g ∧ c5 g < g.length := zCE g g 0 (-1) (by omega) (by omega)
theorem zJG (g : List Nat) (hl : g.length ≤ 1000) (hs : ∀ x, x ∈ g → x ≤ 1000) :
  zNV prog 67 [.list (g.map fun n => iV (n : Nat)), fnV 68] [] (iV (c5 g)) [] := by
 have hca : r8 prog 68 = true := by kernel_rfl
 have hG0 : Z0 g (g.drop 0) 0 (-1) = c5 g := rfl
 generalize c5 g = G at *
 refine z9 func67 rfl (fun E hE => ?_); simp only [go_sem, ntmps67]
 repeat' (first | (refine Qr rfl ?_; try intro _ hK; try simp only [go_sem, *]) | (refine Qi rfl rfl rfl rfl ?_ ?_ <;> (intro hb; (try intro _ hK); have hc := hb; try simp only [go_sem] at hc; simp only [go_sem, *])) | refine Qh rfl ?_ | (refine Qc rfl rfl ?_ ?_ <;> (intro hb; have hc := hb; try simp only [go_sem] at hc)) | refine z6 rfl ?_ | ((with_reducible apply And.intro); focus omega) | (refine z5 hK ?_; clear hK; simp only [go_sem, *]) | simp only [z3, z4, go_sem, *])
 refine v9 rfl (g.length) (fun i (a : Int) => Z0 g (g.drop i) i a = G ∧ -1 ≤ a ∧ a < i) 30 (fun i a => [(10, iV i), (9, iV g.length), (8, .list (g.map fun n => iV (n : Nat))), (0, .list (g.map fun n => iV (n : Nat))), (1, fnV 68), (5, iV a)]) (fun i a => []) [] [] (-1) (by exact ⟨hG0, by omega, by omega⟩) ?_; intro i a hi hP
 obtain ⟨hP, ha1, ha2⟩ := hP
 by_cases hi2 : i < g.length
 ·rw [zGr hi2] at hP
  have hx := hs _ (w5 hi2)
  by_cases ha : a < 0
  ·have hd : decide (a < 0) = true := by simpa using ha
   rw [if_pos (.inl ha)] at hP
   repeat' (first | (refine Qr rfl ?_; try intro _ hK; try simp only [go_sem, *]) | (refine Qi rfl rfl rfl rfl ?_ ?_ <;> (intro hb; (try intro _ hK); have hc := hb; try simp only [go_sem] at hc; simp only [go_sem, *])) | refine Qh rfl ?_ | (refine Qc rfl rfl ?_ ?_ <;> (intro hb; have hc := hb; try simp only [go_sem] at hc)) | refine z6 rfl ?_ | ((with_reducible apply And.intro); focus omega) | (refine z5 hK ?_; clear hK; simp only [go_sem, *]) | simp only [z3, z4, go_sem, *])
   all_goals try contradiction
   exact x9 (i' := i + 1) [] [] ((i : Int)) (by exact ⟨hP, by omega, by omega⟩)
  ·obtain ⟨k, rfl⟩ : ∃ k : Nat, a = (k : Int) := ⟨a.toNat, by omega⟩
   have hk : k < g.length := by omega
   have hy := hs _ (w5 hk)
   have hd : decide ((k : Int) < 0) = false := by simp
   have hkl : ((k : Int) < (g.length : Int)) := by omega
   have e0 : g.getD (k : Int).toNat 0 = g.getD k default := rfl
   rw [e0] at hP
   clear e0
   have sa := zIV ((g.getD i default : Nat) : Int) ((g.getD k default : Nat) : Int)
   rw [wrap_i64 (by omega) (by omega)] at sa
   by_cases hc0 : g.getD i default < g.getD k default
   ·rw [if_pos (.inr hc0)] at hP
    have hd2 : ((g.getD i default : Nat) : Int) - ((g.getD k default : Nat) : Int) < 0 := by omega
    repeat' (first | (refine Qr rfl ?_; try intro _ hK; try simp only [go_sem, *]) | (refine Qi rfl rfl rfl rfl ?_ ?_ <;> (intro hb; (try intro _ hK); have hc := hb; try simp only [go_sem] at hc; simp only [go_sem, *])) | refine Qh rfl ?_ | (refine Qc rfl rfl ?_ ?_ <;> (intro hb; have hc := hb; try simp only [go_sem] at hc)) | refine z6 rfl ?_ | (refine z8 (sa) ?_; simp only [go_sem, *]) | ((with_reducible apply And.intro); focus omega) | (refine z5 hK ?_; clear hK; simp only [go_sem, *]) | simp only [z3, z4, go_sem, *])
    all_goals try contradiction
    all_goals first | omega | skip
    exact x9 (i' := i + 1) [] [] ((i : Int)) (by exact ⟨hP, by omega, by omega⟩)
   ·rw [if_neg (by omega)] at hP
    have hd2 : ¬ ((g.getD i default : Nat) : Int) - ((g.getD k default : Nat) : Int) < 0 := by omega
    repeat' (first | (refine Qr rfl ?_; try intro _ hK; try simp only [go_sem, *]) | (refine Qi rfl rfl rfl rfl ?_ ?_ <;> (intro hb; (try intro _ hK); have hc := hb; try simp only [go_sem] at hc; simp only [go_sem, *])) | refine Qh rfl ?_ | (refine Qc rfl rfl ?_ ?_ <;> (intro hb; have hc := hb; try simp only [go_sem] at hc)) | refine z6 rfl ?_ | (refine z8 (sa) ?_; simp only [go_sem, *]) | ((with_reducible apply And.intro); focus omega) | (refine z5 hK ?_; clear hK; simp only [go_sem, *]) | simp only [z3, z4, go_sem, *])
    all_goals try contradiction
    all_goals first | omega | skip
    exact x9 (i' := i + 1) [] [] ((k : Int)) (by exact ⟨hP, by omega, by omega⟩)
 ·rw [u0 (by omega)] at hP
  have hP2 : a = G := hP
  subst hP2
  repeat' (first | (refine Qr rfl ?_; try intro _ hK; try simp only [go_sem, *]) | (refine Qi rfl rfl rfl rfl ?_ ?_ <;> (intro hb; (try intro _ hK); have hc := hb; try simp only [go_sem] at hc; simp only [go_sem, *])) | refine Qh rfl ?_ | (refine Qc rfl rfl ?_ ?_ <;> (intro hb; have hc := hb; try simp only [go_sem] at hc)) | refine z6 rfl ?_ | ((with_reducible apply And.intro); focus omega) | (refine z5 hK ?_; clear hK; simp only [go_sem, *]) | simp only [z3, z4, go_sem, *])
  (refine ⟨[_], [], [], ⟨rfl, trivial⟩, ?_⟩; simp only [go_sem, *])
end Go.Abs

