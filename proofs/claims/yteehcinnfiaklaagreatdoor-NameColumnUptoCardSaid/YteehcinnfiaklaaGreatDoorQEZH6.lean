/-
  WHAT THE PROOF STANDS ON, PART 6: contracts of the program's functions and the logic that they are proved in. No condition.
-/
import Derived.Test.YteehcinnfiaklaaGreatDoorQE5
set_option maxRecDepth 100000
set_option maxHeartbeats 4000000
set_option linter.unusedVariables false
set_option linter.unusedSimpArgs false
set_option linter.unusedSectionVars false
namespace Go.Abs
open Go Go.Proofs Tryz
attribute [local irreducible] y4 Hold y9
abbrev zPW (l : List Nat) : AV := .list (l.map nV)
noncomputable def zPF : Code := sub [0, 1, 0, 1, 1, 1] (W9 Tryz.f102)
noncomputable def zPX (fn : FuncId) : LoopK := ⟨fn, #[10], N2 zPF, N3 zPF, 23⟩
def zOo : Option (List Nat) → AV
 | none => .raw (.slice none 0 0)
 | some c => zPW c
@[go_sem] theorem zPv : zOo none = .raw (.slice none 0 0) := rfl
@[go_sem] theorem zPw (c : List Nat) : zOo (some c) = .list (c.map nV) := rfl
@[go_sem] theorem zPs (H : Nat → AObj) (m : List (Option Nat)) (ex : List Nat) (B : Option (List Nat)) : XpF H m ex (zOo B) (zOo B) ↔ True := by cases B <;> simp [zOo, XpF]
@[go_sem] theorem zP4 (f : Nat → Nat) (B : Option (List Nat)) : AV.ren f (zOo B) = zOo B := by cases B <;> simp [zOo, AV.ren]
@[go_sem] theorem zPx (B : Option (List Nat)) : (zOo B).cells = [zOo B] := by cases B <;> rfl
@[go_sem] theorem zP2 (B : Option (List Nat)) : (zOo B).one = true := by cases B <;> rfl
@[go_sem] theorem zPz (B : Option (List Nat)) : (zOo B).flat = true := by cases B <;> rfl
@[go_sem] theorem zP8 (B : Option (List Nat)) : (zOo B).sized = true := by cases B <;> rfl
abbrev zPj : AV := fnV 103
abbrev zP1 (c : List Nat) : Prop := c.length ≤ 1000
end Go.Abs

namespace Go.Abs
open Go Go.Proofs Tryz
attribute [local irreducible] y4 Hold y9
def zP6 (l : List Str) (s : Nat) : List (List Nat) := (List.range' s (2 ^ l.length - s)).filterMap fun set => if J3 (zHA l set) = true then some (zGs l.length set) else none
def zP5 (l : List Str) (set i : Nat) : List Str := ((List.range i).filter fun i => !set.testBit i).map fun i => l.getD i default
def zPE (a b : Int) : Int := IntKind.i64.wrap (BitVec.ofInt IntKind.i64.bits a &&& BitVec.ofInt IntKind.i64.bits b).toNat
def zPK (a : Int) (k : Nat) : Int := a.fdiv (2 ^ (min k IntKind.i64.bits))
@[go_sem ↓] theorem zP0 (a b : Int) (K : Cont) : zNy .and .i64 a b K = K (iV (zPE a b)) [] [] := rfl
@[go_sem ↓] theorem zP7 (a b : Int) (K : Cont) : S5 .shr .i64 a b K = (0 ≤ b ∧ K (iV (zPK a b.toNat)) [] []) := rfl
def zQI (set i : Nat) : Int := zPE (zPK set i) 1
set_option maxRecDepth 100000 in
noncomputable abbrev zPy (fn : FuncId) (B : Option (List Nat)) : List AObj := [.loopo (zPX fn) [(3, .ptr 1 0), (6, .ptr 2 0), (7, .ptr 3 0)] (some none), .box [zPj], .box [zOo B], .box [bV B.isSome]]
end Go.Abs

namespace Go.Abs
open Go Go.Proofs Tryz
attribute [local irreducible] y4 Hold y9
end Go.Abs

namespace Go.Abs
open Go Go.Proofs Tryz
attribute [local irreducible] y4 Hold y9
@[go_sem, simp] theorem zPR {α : Type} (H : Nat → AObj) (m : List (Option Nat)) (ex : List Nat) (f : α → List AV) (l : List α) (x y : AV) : XpL H m ex (List.map (fun t => AV.list (f t)) l ++ [x]) (List.map (fun t => AV.list (f t)) l ++ [y]) ↔ XpF H m ex x y := by
 rw [zDZ _ (fun z hz => by
  obtain ⟨t, _, rfl⟩ := List.mem_map.1 hz
  simp only [XpF])]
@[go_sem, simp] theorem zPu {α : Type} (H : Nat → AObj) (m : List (Option Nat)) (ex : List Nat) (f : α → List AV) (l : List α) : XpL H m ex (List.map (fun t => AV.list (f t)) l) (List.map (fun t => AV.list (f t)) l) ↔ True := ⟨fun _ => trivial, fun _ => zDa (fun x => by simp only [XpF]) _⟩
def zOm (n : Nat) : Nat → Nat → List (List Int)
 | 0, _ => [[]]
 | _ + 1, 0 => []
 | m + 1, r + 1 => (zOm n m r).map (fun l => (((n - (r + 1) : Nat) : Int)) :: l) ++ zOm n (m + 1) r
@[go_sem, simp] theorem zPt (H : Nat → AObj) (m : List (Option Nat)) (ex : List Nat) (l : List (List Int)) (x y : AV) : XpL H m ex (List.map T1 l ++ [x]) (List.map T1 l ++ [y]) ↔ XpF H m ex x y := zPR H m ex (fun t => t.map iV) l x y
end Go.Abs

namespace Go.Abs
open Go Go.Proofs Tryz
attribute [local irreducible] y4 Hold y9
def wTo (l : List Str) (c : List Int) (i : Nat) : List Str := ((List.range i).filter fun (j : Nat) => !(c.any (· == (j : Int)))).map fun j => l.getD j default
def WOK (l : List Str) (c : List Int) (i : Nat) (acc : List Str) : Prop := acc = wTo l c i
def zPq (c : List Int) (i : Nat) (k : Nat) (b : Bool) : Prop := b = (c.take k).any (· == (i : Int))
def zQH (q : List Str) (t : Nat) : Prop := ∀ j, j < t → ¬ o5 (q.getD (j + 1) []) (q.getD j []) < 0
end Go.Abs

namespace Go.Abs
open Go Go.Proofs Tryz
attribute [local irreducible] y4 Hold y9
def zOq (l : List Str) (own : Str) (T : List Int) (k i : Nat) (m o : Bool) : Prop := m = (T.take i).any (· == (k : Int)) ∧ o = (T.take i).any fun z => !(decide (zNG (l.getD z.toNat default) = own))
theorem zPd {l : List Str} {own : Str} {T : List Int} {k i j : Nat} {m o : Bool} (hi : i < T.length) (hj : T.getD i default = (j : Int)) (h : zOq l own T k i m o) : zOq l own T k (i + 1) (m || ((j : Int) == (k : Int))) (o || !(decide (zNG (l.getD j default) = own))) := by
 obtain ⟨h1, h2⟩ := h
 unfold zOq
 rw [E8 hi, List.any_append, List.any_append, ← h1, ← h2, hj]
 constructor
 ·simp
 ·simp
theorem zPb {l : List Str} {t : Str} {k : Nat} (hk : k < l.length) : (j9 t l 0).any (· == (k : Int)) = u0 t (zNG (l.getD k default)) := by
 rw [Bool.eq_iff_iff, List.any_eq_true]
 constructor
 ·rintro ⟨z, hz, e⟩
  obtain ⟨i, rfl, _, h⟩ := mem_std.1 hz
  have : (i : Int) = k := beq_iff_eq.1 e
  have : i = k := by omega
  subst this; exact h
 ·intro h
  exact ⟨(k : Int), mem_std.2 ⟨k, rfl, hk, h⟩, by simp⟩
theorem zPc {l : List Str} {t own : Str} : ((j9 t l 0).any fun z => !(decide (zNG (l.getD z.toNat default) = own))) = p8 t l own := by
 unfold p8
 rw [Bool.eq_iff_iff, List.any_eq_true, List.any_eq_true]
 constructor
 ·rintro ⟨z, hz, e⟩
  obtain ⟨i, rfl, hi, h⟩ := mem_std.1 hz
  refine ⟨l.getD i default, o7 hi, ?_⟩
  rw [Int.toNat_natCast] at e
  rw [e, h]; rfl
 ·rintro ⟨x, hx, e⟩
  rw [Bool.and_eq_true] at e
  obtain ⟨i, hi, rfl⟩ := List.getElem_of_mem hx
  have hg : l.getD i default = l[i] := by simp [List.getD, hi]
  refine ⟨(i : Int), mem_std.2 ⟨i, rfl, hi, by rw [hg]; exact e.2⟩, ?_⟩
  rw [Int.toNat_natCast, hg]; exact e.1
theorem zPM (s : Str) (l : List Str) (k : Nat) (q : Z4 s l = 0) (hv : ∀ x, x ∈ l → ValidN x) (hk : k < l.length) (h6 : l.length ≤ 1000) :
  zNF prog 68 [sV s, y7 l, iV k] [] (.tup [bV (!u0 (w4 s) (zNG (l.getD k default)) || p8 (w4 s) l (zNG (l.getD k default))), bV true]) [] := by
 have s1 := zMu s l q
 have s2 := zMr (hv _ (o7 hk))
 have s3 := fun i (hi : i < l.length) => zMr (hv _ (o7 hi))
 have hTl : (zNv s l).length ≤ l.length := zM1 _ 0 rfl
 have hmem := fun z (hz : z ∈ zNv s l) => mem_std.1 hz
 have hm : (zNv s l).any (· == (k : Int)) = u0 (w4 s) (zNG (l.getD k default)) := zPb hk
 have ho : ((zNv s l).any fun z => !(decide (zNG (l.getD z.toNat default) = zNG (l.getD k default)))) = p8 (w4 s) l (zNG (l.getD k default)) := zPc
 rw [← hm, ← ho]
 clear hm ho hv q
 have hkk : (k : Int) < (l.length : Int) := by omega
 generalize hoe : zNG (l.getD k default) = own at *
 obtain ⟨R, hR⟩ : ∃ R, (!(zNv s l).any (· == (k : Int)) || ((zNv s l).any fun z => !(decide (zNG (l.getD z.toNat default) = own)))) = R := ⟨_, rfl⟩
 rw [hR]
 generalize zNv s l = T at *
 have hTg : ¬ (T.length : Int) > (l.length : Int) := by omega
 have h0 : zOq l own T k 0 false false := ⟨rfl, rfl⟩
 refine q9 func68 rfl (fun E hE => ?_); simp only [go_sem, ntmps68]
 repeat' (first | (refine Qr rfl ?_; try intro _ hK; try simp only [go_sem, *]) | (refine Qi rfl rfl rfl rfl ?_ ?_ <;> (intro hb; (try intro _ hK); have hc := hb; try simp only [go_sem] at hc; simp only [go_sem, *])) | refine Qh rfl ?_ | (refine Qc rfl rfl ?_ ?_ <;> (intro hb; have hc := hb; try simp only [go_sem] at hc)) | refine q8 rfl ?_ | (refine j1 (s1) ?_; simp only [go_sem, *]) | (refine x5 (s2) ?_ ?_; (focus (simp only [go_sem, *]; done)); simp only [go_sem, *]) | ((with_reducible apply And.intro); focus omega) | (refine q7 hK ?_; clear hK; simp only [go_sem, *]) | simp only [q6, z8, go_sem, *])
 all_goals first | contradiction | omega | skip
 refine O0 rfl (T.length) (fun i (m : Bool) (o : Bool) => zOq l own T k i m o) 95 (fun i m o => [(14, iV i), (12, bV m), (13, bV o), (11, iV 0), (10, sV own), (8, .own 0 1 0 T.length), (1, y7 l), (2, iV k)]) (fun i m o => [.row 1 (T.map iV)]) [some 0] [] (false) (false) (by exact h0) ?_; intro i m o hi hP
 clear h0 s1 s2
 by_cases hi2 : i < T.length
 ·have hii : (i : Int) < (T.length : Int) := by omega
  have hwi : IntKind.i64.wrap ((i : Int) + 1) = ((i + 1 : Nat) : Int) := t6 (by omega)
  obtain ⟨j, hz, hj, -⟩ := hmem _ (o7 hi2)
  have hP2 := zPd hi2 hz hP
  have t3 := s3 j hj
  have hj0 : ¬ (j : Int) < 0 := by omega
  have hj1 : ¬ (j : Int) ≥ (l.length : Int) := by omega
  clear hP hmem s3 hR
  generalize hze : T.getD i default = z at *
  subst hz
  generalize hye : l.getD j default = y at *
  generalize zNG y = ky at *
  generalize hjb : ((j : Int) == (k : Int)) = jb at *
  by_cases q2 : ky = own
  ·have qb : (ky == own) = true := by simpa using q2
   rw [decide_eq_true q2] at hP2
   clear q2
   cases m <;> cases o
   ·have hP2 : zOq l own T k (i + 1) jb false := hP2
    repeat' (first | (refine Qr rfl ?_; try intro _ hK; try simp only [go_sem, *]) | (refine Qi rfl rfl rfl rfl ?_ ?_ <;> (intro hb; (try intro _ hK); have hc := hb; try simp only [go_sem] at hc; simp only [go_sem, *])) | refine Qh rfl ?_ | (refine Qc rfl rfl ?_ ?_ <;> (intro hb; have hc := hb; try simp only [go_sem] at hc)) | refine q8 rfl ?_ | (refine x5 (t3) ?_ ?_; (focus (simp only [go_sem, *]; done)); simp only [go_sem, *]) | ((with_reducible apply And.intro); focus omega) | (refine q7 hK ?_; clear hK; simp only [go_sem, *]) | simp only [q6, z8, go_sem, *])
    all_goals first | contradiction | omega | skip
    exact i7 (i' := i + 1) [some 0] [] (jb) (false) (by exact hP2)
   ·have hP2 : zOq l own T k (i + 1) jb true := hP2
    repeat' (first | (refine Qr rfl ?_; try intro _ hK; try simp only [go_sem, *]) | (refine Qi rfl rfl rfl rfl ?_ ?_ <;> (intro hb; (try intro _ hK); have hc := hb; try simp only [go_sem] at hc; simp only [go_sem, *])) | refine Qh rfl ?_ | (refine Qc rfl rfl ?_ ?_ <;> (intro hb; have hc := hb; try simp only [go_sem] at hc)) | refine q8 rfl ?_ | (refine x5 (t3) ?_ ?_; (focus (simp only [go_sem, *]; done)); simp only [go_sem, *]) | ((with_reducible apply And.intro); focus omega) | (refine q7 hK ?_; clear hK; simp only [go_sem, *]) | simp only [q6, z8, go_sem, *])
    all_goals first | contradiction | omega | skip
    exact i7 (i' := i + 1) [some 0] [] (jb) (true) (by exact hP2)
   ·have hP2 : zOq l own T k (i + 1) true false := hP2
    repeat' (first | (refine Qr rfl ?_; try intro _ hK; try simp only [go_sem, *]) | (refine Qi rfl rfl rfl rfl ?_ ?_ <;> (intro hb; (try intro _ hK); have hc := hb; try simp only [go_sem] at hc; simp only [go_sem, *])) | refine Qh rfl ?_ | (refine Qc rfl rfl ?_ ?_ <;> (intro hb; have hc := hb; try simp only [go_sem] at hc)) | refine q8 rfl ?_ | (refine x5 (t3) ?_ ?_; (focus (simp only [go_sem, *]; done)); simp only [go_sem, *]) | ((with_reducible apply And.intro); focus omega) | (refine q7 hK ?_; clear hK; simp only [go_sem, *]) | simp only [q6, z8, go_sem, *])
    all_goals first | contradiction | omega | skip
    exact i7 (i' := i + 1) [some 0] [] (true) (false) (by exact hP2)
   ·have hP2 : zOq l own T k (i + 1) true true := hP2
    repeat' (first | (refine Qr rfl ?_; try intro _ hK; try simp only [go_sem, *]) | (refine Qi rfl rfl rfl rfl ?_ ?_ <;> (intro hb; (try intro _ hK); have hc := hb; try simp only [go_sem] at hc; simp only [go_sem, *])) | refine Qh rfl ?_ | (refine Qc rfl rfl ?_ ?_ <;> (intro hb; have hc := hb; try simp only [go_sem] at hc)) | refine q8 rfl ?_ | (refine x5 (t3) ?_ ?_; (focus (simp only [go_sem, *]; done)); simp only [go_sem, *]) | ((with_reducible apply And.intro); focus omega) | (refine q7 hK ?_; clear hK; simp only [go_sem, *]) | simp only [q6, z8, go_sem, *])
    all_goals first | contradiction | omega | skip
    exact i7 (i' := i + 1) [some 0] [] (true) (true) (by exact hP2)
  ·have qb : (ky == own) = false := by simpa using q2
   rw [decide_eq_false q2] at hP2
   clear q2
   cases m <;> cases o
   ·have hP2 : zOq l own T k (i + 1) jb true := hP2
    repeat' (first | (refine Qr rfl ?_; try intro _ hK; try simp only [go_sem, *]) | (refine Qi rfl rfl rfl rfl ?_ ?_ <;> (intro hb; (try intro _ hK); have hc := hb; try simp only [go_sem] at hc; simp only [go_sem, *])) | refine Qh rfl ?_ | (refine Qc rfl rfl ?_ ?_ <;> (intro hb; have hc := hb; try simp only [go_sem] at hc)) | refine q8 rfl ?_ | (refine x5 (t3) ?_ ?_; (focus (simp only [go_sem, *]; done)); simp only [go_sem, *]) | ((with_reducible apply And.intro); focus omega) | (refine q7 hK ?_; clear hK; simp only [go_sem, *]) | simp only [q6, z8, go_sem, *])
    all_goals first | contradiction | omega | skip
    exact i7 (i' := i + 1) [some 0] [] (jb) (true) (by exact hP2)
   ·have hP2 : zOq l own T k (i + 1) jb true := hP2
    repeat' (first | (refine Qr rfl ?_; try intro _ hK; try simp only [go_sem, *]) | (refine Qi rfl rfl rfl rfl ?_ ?_ <;> (intro hb; (try intro _ hK); have hc := hb; try simp only [go_sem] at hc; simp only [go_sem, *])) | refine Qh rfl ?_ | (refine Qc rfl rfl ?_ ?_ <;> (intro hb; have hc := hb; try simp only [go_sem] at hc)) | refine q8 rfl ?_ | (refine x5 (t3) ?_ ?_; (focus (simp only [go_sem, *]; done)); simp only [go_sem, *]) | ((with_reducible apply And.intro); focus omega) | (refine q7 hK ?_; clear hK; simp only [go_sem, *]) | simp only [q6, z8, go_sem, *])
    all_goals first | contradiction | omega | skip
    exact i7 (i' := i + 1) [some 0] [] (jb) (true) (by exact hP2)
   ·have hP2 : zOq l own T k (i + 1) true true := hP2
    repeat' (first | (refine Qr rfl ?_; try intro _ hK; try simp only [go_sem, *]) | (refine Qi rfl rfl rfl rfl ?_ ?_ <;> (intro hb; (try intro _ hK); have hc := hb; try simp only [go_sem] at hc; simp only [go_sem, *])) | refine Qh rfl ?_ | (refine Qc rfl rfl ?_ ?_ <;> (intro hb; have hc := hb; try simp only [go_sem] at hc)) | refine q8 rfl ?_ | (refine x5 (t3) ?_ ?_; (focus (simp only [go_sem, *]; done)); simp only [go_sem, *]) | ((with_reducible apply And.intro); focus omega) | (refine q7 hK ?_; clear hK; simp only [go_sem, *]) | simp only [q6, z8, go_sem, *])
    all_goals first | contradiction | omega | skip
    exact i7 (i' := i + 1) [some 0] [] (true) (true) (by exact hP2)
   ·have hP2 : zOq l own T k (i + 1) true true := hP2
    repeat' (first | (refine Qr rfl ?_; try intro _ hK; try simp only [go_sem, *]) | (refine Qi rfl rfl rfl rfl ?_ ?_ <;> (intro hb; (try intro _ hK); have hc := hb; try simp only [go_sem] at hc; simp only [go_sem, *])) | refine Qh rfl ?_ | (refine Qc rfl rfl ?_ ?_ <;> (intro hb; have hc := hb; try simp only [go_sem] at hc)) | refine q8 rfl ?_ | (refine x5 (t3) ?_ ?_; (focus (simp only [go_sem, *]; done)); simp only [go_sem, *]) | ((with_reducible apply And.intro); focus omega) | (refine q7 hK ?_; clear hK; simp only [go_sem, *]) | simp only [q6, z8, go_sem, *])
    all_goals first | contradiction | omega | skip
    exact i7 (i' := i + 1) [some 0] [] (true) (true) (by exact hP2)
 ·have hii : ¬ (i : Int) < (T.length : Int) := by omega
  obtain ⟨h1, h2⟩ := hP
  rw [List.take_of_length_le (by omega)] at h1 h2
  rw [← h1, ← h2] at hR
  clear h1 h2 hmem s3
  subst hR
  cases m <;> cases o
  all_goals
   repeat' (first | (refine Qr rfl ?_; try intro _ hK; try simp only [go_sem, *]) | (refine Qi rfl rfl rfl rfl ?_ ?_ <;> (intro hb; (try intro _ hK); have hc := hb; try simp only [go_sem] at hc; simp only [go_sem, *])) | refine Qh rfl ?_ | (refine Qc rfl rfl ?_ ?_ <;> (intro hb; have hc := hb; try simp only [go_sem] at hc)) | refine q8 rfl ?_ | ((with_reducible apply And.intro); focus omega) | (refine q7 hK ?_; clear hK; simp only [go_sem, *]) | simp only [q6, z8, go_sem, *])
   all_goals first | contradiction | omega | skip
   (refine ⟨[_, _], [], [], ⟨rfl, rfl, trivial⟩, ?_⟩; simp only [go_sem, *])
end Go.Abs

namespace Go.Abs
open Go Go.Proofs Tryz
attribute [local irreducible] y4 Hold y9
def zOp (n : Int) : List Int → Nat → Int
 | [], _ => -1
 | x :: r, i => if x = n then i else zOp n r (i + 1)
def zPr (l : List Str) (i : Nat) (S : List Str) : Prop := S = (zMp l).take i
def zPp (S : List Str) (i f : Nat) : Prop := ∀ j, f ≤ j → j ≤ i → S.getD j default = S.getD i default
end Go.Abs

namespace Go.Abs
open Go Go.Proofs Tryz
attribute [local irreducible] y4 Hold y9
theorem zOw (t : Str) : w4 (t ++ [46]) = t := by
 unfold w4
 rw [List.length_append, List.length_singleton, Nat.add_sub_cancel, List.take_left']
 rfl
theorem zPJ {t : Str} (h1 : 1 ≤ t.length) (h2 : t.length ≤ 12) (h3 : t.all y8 = true) : r4 (t ++ [46]) = true := by
 unfold r4
 rw [zOw, zI5 (by simp)]
 have e : (t ++ [46]).getD ((t ++ [46]).length - 1) 0 = 46 := by
  rw [List.length_append, List.length_singleton, Nat.add_sub_cancel]
  simp [List.getD]
 rw [e]
 unfold x7
 simp [h1, h2, h3]
theorem zOy {a b : Str} (h : a.Sublist b) (hb : b.all y8 = true) : a.all y8 = true :=
 List.all_eq_true.2 fun x hx => List.all_eq_true.1 hb x (h.subset hx)
theorem zO0 {t : Str} {l : List Str} (h : 1 ≤ t.length ∧ t.length ≤ 12 ∧ t.all y8 = true) (hl : u9 l = 0) : Z4 (t ++ [46]) l = 0 := by
 unfold Z4
 rw [zPJ h.1 h.2.1 h.2.2, if_pos rfl, hl]
end Go.Abs

namespace Go.Abs
open Go Go.Proofs Tryz
attribute [local irreducible] y4 Hold y9
def zOr (l : List Str) (own : Str) (w : Nat) : Nat := if own.length ≤ w then own.length else match zNN l own ((w : Int) - 1) false with
 | some s => s.length
 | none => 0
theorem zOz {l : List Str} {own : Str} {w : Nat} (h : own.length ≤ w) : zOr l own w = own.length := if_pos h
theorem zO9 {l : List Str} {own s : Str} {w : Nat} (h : ¬ own.length ≤ w) (hc : zNN l own ((w : Int) - 1) false = some s) : zOr l own w = s.length := by
 unfold zOr
 rw [if_neg h, hc]
theorem zO8 {l : List Str} {own : Str} {w : Nat} (h : ¬ own.length ≤ w) (hc : zNN l own ((w : Int) - 1) false = none) : zOr l own w = 0 := by
 unfold zOr
 rw [if_neg h, hc]
theorem zPi {l : List Str} {own : Str} (h : 1 ≤ own.length) : zOr l own 0 = 0 := by
 cases hc : zNN l own (((0 : Nat) : Int) - 1) false with
 | none => exact zO8 (by omega) hc
 | some s => have := zKT hc; omega
theorem zPh {l : List Str} {own : Str} (w : Nat) : zOr l own w ≤ zOr l own (w + 1) := by
 by_cases h : own.length ≤ w
 ·rw [zOz h, zOz (by omega)]; exact Nat.le_refl _
 ·cases hc : zNN l own ((w : Int) - 1) false with
  | none => rw [zO8 h hc]; exact Nat.zero_le _
  | some s =>
   rw [zO9 h hc]
   have hl := zKT hc
   by_cases h2 : own.length ≤ w + 1
   ·rw [zOz h2]; omega
   ·obtain ⟨t, ht, hle⟩ := zKW (m := (w : Int) - 1) (m' := ((w + 1 : Nat) : Int) - 1) (by omega) hc
    rw [zO9 h2 ht]; exact hle
theorem zPV {own s : Str} (h : own.all y8 = true) : ((s ++ [46]) == own) = false := by
 rw [beq_eq_false_iff_ne]
 intro e
 rw [← e, List.all_append] at h
 simp [y8] at h
theorem zP9 (nums : List Int) (h : nums.length ≤ 4294967296) : zNF prog 17 [T1 nums] [] (bV true) [] := by
 obtain ⟨d0, s0, hd0⟩ := zKX nums h
 obtain ⟨l0, d1, s1, v0, hl0, hd1⟩ := zLV d0 4 5 hd0 (by omega) (by omega)
 obtain ⟨x, d2, s2, vx, hd2⟩ := zLU d1 5 hd1 (by omega)
 obtain ⟨L, hmap, hll, hvL, -⟩ := zLS v0 vx
 obtain ⟨j, d3, s3, hj, hd3⟩ := zM8 d2 (l0.length : Int) hd2 (by omega)
 have hjL : j < L.length := by omega
 have vj := hvL _ (o7 (l := L) (i := j) hjL)
 have sK := zMv (L.getD j default) (by have := vj.len; omega)
 rw [if_pos (checkN_zero.2 vj), checkN_zero.2 vj] at sK
 have hk12 := zB1 vj
 have hLe : u9 L = 0 := zGO hvL (by omega)
 have hi0 : j4 L (j : Int) = 0 := zF2 hvL (by omega) hjL
 have sSh := zH7 L (j : Int) (by omega)
 have sF := fun w => zHy L (j : Int) w (by omega)
 have hc := zMm hvL (by omega) hjL
 have hMis := fun t (ht : 1 ≤ t.length ∧ t.length ≤ 12 ∧ t.all y8 = true) => zPM (t ++ [46]) L j (zO0 ht hLe) hvL hjL (by omega)
 simp only [zOw] at hMis
 have hka : t8 L (j : Int) = zNG (L.getD j default) := rfl
 have hgo : ∃ g e, N6 L (j : Int) = g ∧ N5 L (j : Int) = e ∧ (e = 0 ∨ e = 11) ∧ (e = 0 → ∃ s, zNN L (zNG (L.getD j default)) 12 true = some s ∧ g = s ++ [46]) := by
  rcases hc with ⟨s, a, b, c⟩ | ⟨a, b, c⟩
  ·exact ⟨_, _, rfl, rfl, .inl b, fun _ => ⟨s, a, c⟩⟩
  ·exact ⟨_, _, rfl, rfl, .inr b, fun h => by rw [b] at h; cases h⟩
 obtain ⟨g, e, hg, he, hee, hcase⟩ := hgo
 rw [hg, he] at sSh
 have hgl : g.length ≤ 4294967296 := by
  rcases hc with ⟨s, a, b, c⟩ | ⟨a, b, c⟩
  ·have := zKT a
   rw [hg] at c
   rw [c]; simp; omega
  ·rw [hg] at c
   rw [c]; simp
 have sF1 : ∀ w : Nat, 1 ≤ w → (zNG (L.getD j default)).length ≤ w → zNF prog 31 [y7 L, iV j, iV w] [] (.tup [sV (zNG (L.getD j default)), iV 0]) [] := fun w h1 h2 => by
  have := sF (w : Int)
  unfold zOP B0 at this
  rw [hi0, if_pos rfl, if_pos rfl, hka, if_neg (by omega), if_pos (by omega), if_neg (by omega), if_pos (by omega)] at this
  exact this
 have sF2 : ∀ (w : Nat) (s : Str), 1 ≤ w → ¬ (zNG (L.getD j default)).length ≤ w → zNN L (zNG (L.getD j default)) ((w : Int) - 1) false = some s → zNF prog 31 [y7 L, iV j, iV w] [] (.tup [sV (s ++ [46]), iV 0]) [] := fun w s h1 h2 h3 => by
  have := sF (w : Int)
  unfold zOP B0 at this
  rw [hi0, if_pos rfl, if_pos rfl, hka, if_neg (by omega), if_neg (by omega), if_neg (by omega), if_neg (by omega), h3] at this
  exact this
 have sF3 : ∀ w : Nat, 1 ≤ w → ¬ (zNG (L.getD j default)).length ≤ w → zNN L (zNG (L.getD j default)) ((w : Int) - 1) false = none → zNF prog 31 [y7 L, iV j, iV w] [] (.tup [sV [], iV 11]) [] := fun w h1 h2 h3 => by
  have := sF (w : Int)
  unfold zOP B0 at this
  rw [hi0, if_pos rfl, if_pos rfl, hka, if_neg (by omega), if_neg (by omega), if_neg (by omega), if_neg (by omega), h3] at this
  exact this
 generalize zNG (L.getD j default) = own at *
 have htk : List.take (l0.length + 1) (List.map sV L) = List.map sV L := List.take_of_length_le (by simp; omega)
 have hw0 : IntKind.i64.wrap (((l0.length + 1 : Nat) : Int) - 1) = (l0.length : Int) := by rw [wrap_i64 (by omega) (by omega)]; omega
 have sS := zMz
 have hjl : j < l0.length + 1 := by omega
 have hz : zOr L own 0 = 0 := zPi (by omega)
 clear v0 vx vj hd0 hd1 hd2 hd3 h hc hg he hvL hLe sF hi0 hka
 refine q9 func17 rfl (fun E hE => ?_); simp only [go_sem, ntmps17]
 repeat' (first | (refine Qr rfl ?_; try intro _ hK; try simp only [go_sem, *]) | (refine Qi rfl rfl rfl rfl ?_ ?_ <;> (intro hb; (try intro _ hK); have hc := hb; try simp only [go_sem] at hc; simp only [go_sem, *])) | refine Qh rfl ?_ | (refine Qc rfl rfl ?_ ?_ <;> (intro hb; have hc := hb; try simp only [go_sem] at hc)) | refine q8 rfl ?_ | (refine j1 (s0) ?_; simp only [go_sem, *]) | ((with_reducible apply And.intro); focus omega) | (refine q7 hK ?_; clear hK; simp only [go_sem, *]) | simp only [q6, z8, go_sem, *])
 refine v8 [0] s1 ?_
 simp only [go_sem, *]
 repeat' (first | (refine Qr rfl ?_; try intro _ hK; try simp only [go_sem, *]) | (refine Qi rfl rfl rfl rfl ?_ ?_ <;> (intro hb; (try intro _ hK); have hc := hb; try simp only [go_sem] at hc; simp only [go_sem, *])) | refine Qh rfl ?_ | (refine Qc rfl rfl ?_ ?_ <;> (intro hb; have hc := hb; try simp only [go_sem] at hc)) | refine q8 rfl ?_ | ((with_reducible apply And.intro); focus omega) | (refine q7 hK ?_; clear hK; simp only [go_sem, *]) | simp only [q6, z8, go_sem, *])
 refine v8 [0] s2 ?_
 simp only [go_sem, *]
 repeat' (first | ((with_reducible refine zM2 [0, 1, 1, 1] ?_)) | (refine Qr rfl ?_; try intro _ hK; try simp only [go_sem, *]) | (refine Qi rfl rfl rfl rfl ?_ ?_ <;> (intro hb; (try intro _ hK); have hc := hb; try simp only [go_sem] at hc; simp only [go_sem, *])) | refine Qh rfl ?_ | (refine Qc rfl rfl ?_ ?_ <;> (intro hb; have hc := hb; try simp only [go_sem] at hc)) | refine q8 rfl ?_ | ((with_reducible apply And.intro); focus omega) | (refine q7 hK ?_; clear hK; simp only [go_sem, *]) | simp only [q6, z8, go_sem, *])
 all_goals try contradiction
 refine ⟨?_⟩
 refine T5 (N := 124) (env := [(3, .ptr 0 0), (4, y7 L)]) (As := [w7 d2]) [some 0] [3] (by (simp only [Weak, go_sem, List.map_append, List.map_set, *] <;> (try simp (disch := omega) only [t6]) <;> (try simp) <;> (try omega))) ?_
 clear s0 s1 s2 htk hmap
 have hee2 : ¬ (¬ e = 0 ∧ ¬ e = 11) := by omega
 repeat' (first | (refine Qr rfl ?_; try intro _ hK; try simp only [go_sem, *]) | (refine Qi rfl rfl rfl rfl ?_ ?_ <;> (intro hb; (try intro _ hK); have hc := hb; try simp only [go_sem] at hc; simp only [go_sem, *])) | refine Qh rfl ?_ | (refine Qc rfl rfl ?_ ?_ <;> (intro hb; have hc := hb; try simp only [go_sem] at hc)) | refine q8 rfl ?_ | ((with_reducible apply And.intro); focus omega) | (refine q7 hK ?_; clear hK; simp only [go_sem, *]) | simp only [q6, z8, go_sem, *])
 refine v8 [0] s3 ?_
 simp only [go_sem, *]
 repeat' (first | (refine Qr rfl ?_; try intro _ hK; try simp only [go_sem, *]) | (refine Qi rfl rfl rfl rfl ?_ ?_ <;> (intro hb; (try intro _ hK); have hc := hb; try simp only [go_sem] at hc; simp only [go_sem, *])) | refine Qh rfl ?_ | (refine Qc rfl rfl ?_ ?_ <;> (intro hb; have hc := hb; try simp only [go_sem] at hc)) | refine q8 rfl ?_ | (refine x5 (sSh) ?_ ?_; (focus (simp only [go_sem, *]; done)); simp only [go_sem, *]) | (refine x5 (sK) ?_ ?_; (focus (simp only [go_sem, *]; done)); simp only [go_sem, *]) | ((with_reducible apply And.intro); focus omega) | (refine q7 hK ?_; clear hK; simp only [go_sem, *]) | simp only [q6, z8, go_sem, *])
 all_goals first | contradiction | omega | skip
 all_goals
  refine c7 rfl (12) (fun n (b : Nat) => b = zOr L own n) 124 (fun n b => [(11, iV ((n + 1 : Nat) : Int)), (10, iV b), (9, iV e), (8, sV g), (6, sV own), (5, iV j), (4, y7 L)]) (fun n b => []) [] [] (0) (by exact hz.symm) ?_; intro n b hn hP
  clear s3 sSh sK hz
  by_cases hn2 : n < 12
  ·have hnn : ((n + 1 : Nat) : Int) ≤ 12 := by omega
   have hwn : IntKind.i64.wrap (((n + 1 : Nat) : Int) + 1) = ((n + 1 + 1 : Nat) : Int) := t6 (by omega)
   have hmono := zPh (l := L) (own := own) n
   rw [← hP] at hmono
   by_cases qa : own.length ≤ n + 1
   ·have t := sF1 (n + 1) (by omega) qa
    have hP2 := zOz (l := L) qa
    rw [hP2] at hmono
    have o1 : ((own.length : Int) == 0) = false := by rw [beq_eq_false_iff_ne]; omega
    have o2 : ¬ (own.length : Int) > ((n + 1 : Nat) : Int) := by omega
    have o3 : (own == own) = true := by simp
    have o4 : ¬ (own.length : Int) < (b : Int) := by omega
    clear sF1 sF2 sF3 hMis hP hcase
    repeat' (first | (refine Qr rfl ?_; try intro _ hK; try simp only [go_sem, *]) | (refine Qi rfl rfl rfl rfl ?_ ?_ <;> (intro hb; (try intro _ hK); have hc := hb; try simp only [go_sem] at hc; simp only [go_sem, *])) | refine Qh rfl ?_ | (refine Qc rfl rfl ?_ ?_ <;> (intro hb; have hc := hb; try simp only [go_sem] at hc)) | refine q8 rfl ?_ | (refine x5 (t) ?_ ?_; (focus (simp only [go_sem, *]; done)); simp only [go_sem, *]) | ((with_reducible apply And.intro); focus omega) | (refine q7 hK ?_; clear hK; simp only [go_sem, *]) | simp only [q6, z8, go_sem, *])
    all_goals first | contradiction | omega | skip
    exact p5 (i' := n + 1) [] [] (own.length) (by exact hP2.symm)
   ·have qai : ¬ (own.length : Int) ≤ ((n + 1 : Nat) : Int) := by omega
    cases hcn : zNN L own (((n + 1 : Nat) : Int) - 1) false with
    | some s =>
     have t := sF2 (n + 1) s (by omega) qa hcn
     have hP2 := zO9 qa hcn
     rw [hP2] at hmono
     obtain ⟨c1, c2, c3, c4⟩ := zKT hcn
     have hcut := (cutN_some.1 hcn).1.1
     have hsl : s.all y8 = true := by
      obtain ⟨u, hu, e, _⟩ := hcut
      have hs : (own.take 1 ++ u).Sublist own := by
       have := List.Sublist.append (List.Sublist.refl (own.take 1)) hu
       rwa [List.take_append_drop] at this
      rw [e]
      exact zOy hs hk12.2.2
     have sM := hMis s ⟨c2, by omega, hsl⟩
     rw [zKV hcut, c4] at sM
     have o3 : ((s ++ [46]) == own) = false := zPV hk12.2.2
     have ol : (s ++ [46]).length = s.length + 1 := by simp
     obtain ⟨S, hS⟩ : ∃ S, s ++ [46] = S := ⟨_, rfl⟩
     rw [hS] at t sM o3 ol
     have o1 : (((s.length + 1 : Nat) : Int) == 0) = false := by rw [beq_eq_false_iff_ne]; omega
     have o2 : ¬ ((s.length + 1 : Nat) : Int) > ((n + 1 : Nat) : Int) := by omega
     have hws : IntKind.i64.wrap (((s.length + 1 : Nat) : Int) - 1) = (s.length : Int) := by rw [wrap_i64 (by omega) (by omega)]; omega
     have o4 : ¬ (s.length : Int) < (b : Int) := by omega
     clear sF1 sF2 sF3 hMis hP hcase hcn hcut hS hsl c4
     repeat' (first | (refine Qr rfl ?_; try intro _ hK; try simp only [go_sem, *]) | (refine Qi rfl rfl rfl rfl ?_ ?_ <;> (intro hb; (try intro _ hK); have hc := hb; try simp only [go_sem] at hc; simp only [go_sem, *])) | refine Qh rfl ?_ | (refine Qc rfl rfl ?_ ?_ <;> (intro hb; have hc := hb; try simp only [go_sem] at hc)) | refine q8 rfl ?_ | (refine x5 (t) ?_ ?_; (focus (simp only [go_sem, *]; done)); simp only [go_sem, *]) | (refine x5 (sM) ?_ ?_; (focus (simp only [go_sem, *]; done)); simp only [go_sem, *]) | ((with_reducible apply And.intro); focus omega) | (refine q7 hK ?_; clear hK; simp only [go_sem, *]) | simp only [q6, z8, go_sem, *])
     all_goals first | contradiction | omega | skip
     exact p5 (i' := n + 1) [] [] (s.length) (by exact hP2.symm)
    | none =>
     have t := sF3 (n + 1) (by omega) qa hcn
     have hP2 := zO8 qa hcn
     rw [hP2] at hmono
     have hb0 : b = 0 := by omega
     subst hb0
     rcases hee with e0 | e0
     ·subst e0
      obtain ⟨s, h1, h2⟩ := hcase rfl
      have h3 := zKU hcn h1
      have hgl2 : ¬ (g.length : Int) ≤ ((n + 1 : Nat) : Int) := by rw [h2]; simp; omega
      clear sF1 sF2 sF3 hMis hP hcase hcn h1 h2 hee2
      repeat' (first | (refine Qr rfl ?_; try intro _ hK; try simp only [go_sem, *]) | (refine Qi rfl rfl rfl rfl ?_ ?_ <;> (intro hb; (try intro _ hK); have hc := hb; try simp only [go_sem] at hc; simp only [go_sem, *])) | refine Qh rfl ?_ | (refine Qc rfl rfl ?_ ?_ <;> (intro hb; have hc := hb; try simp only [go_sem] at hc)) | refine q8 rfl ?_ | (refine x5 (t) ?_ ?_; (focus (simp only [go_sem, *]; done)); simp only [go_sem, *]) | ((with_reducible apply And.intro); focus omega) | (refine q7 hK ?_; clear hK; simp only [go_sem, *]) | simp only [q6, z8, go_sem, *])
      all_goals first | contradiction | omega | skip
      all_goals exact p5 (i' := n + 1) [] [] (0) (by exact hP2.symm)
     ·subst e0
      clear sF1 sF2 sF3 hMis hP hcase hcn hee2
      repeat' (first | (refine Qr rfl ?_; try intro _ hK; try simp only [go_sem, *]) | (refine Qi rfl rfl rfl rfl ?_ ?_ <;> (intro hb; (try intro _ hK); have hc := hb; try simp only [go_sem] at hc; simp only [go_sem, *])) | refine Qh rfl ?_ | (refine Qc rfl rfl ?_ ?_ <;> (intro hb; have hc := hb; try simp only [go_sem] at hc)) | refine q8 rfl ?_ | (refine x5 (t) ?_ ?_; (focus (simp only [go_sem, *]; done)); simp only [go_sem, *]) | ((with_reducible apply And.intro); focus omega) | (refine q7 hK ?_; clear hK; simp only [go_sem, *]) | simp only [q6, z8, go_sem, *])
      all_goals first | contradiction | omega | skip
      all_goals exact p5 (i' := n + 1) [] [] (0) (by exact hP2.symm)
  ·have hnn : ¬ ((n + 1 : Nat) : Int) ≤ 12 := by omega
   clear sF1 sF2 sF3 hMis hP hcase
   repeat' (first | (refine Qr rfl ?_; try intro _ hK; try simp only [go_sem, *]) | (refine Qi rfl rfl rfl rfl ?_ ?_ <;> (intro hb; (try intro _ hK); have hc := hb; try simp only [go_sem] at hc; simp only [go_sem, *])) | refine Qh rfl ?_ | (refine Qc rfl rfl ?_ ?_ <;> (intro hb; have hc := hb; try simp only [go_sem] at hc)) | refine q8 rfl ?_ | (refine x5 (sS) ?_ ?_; (focus (simp only [go_sem, *]; done)); simp only [go_sem, *]) | ((with_reducible apply And.intro); focus omega) | (refine q7 hK ?_; clear hK; simp only [go_sem, *]) | simp only [q6, z8, go_sem, *])
   all_goals first | contradiction | omega | skip
   (refine ⟨[_], [], [], ⟨rfl, trivial⟩, ?_⟩; simp only [go_sem, *])
end Go.Abs

