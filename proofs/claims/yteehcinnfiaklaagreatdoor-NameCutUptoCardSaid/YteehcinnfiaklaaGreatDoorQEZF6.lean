/-
  WHAT THE PROOF STANDS ON, PART 6: contracts of the program's functions and the logic that they are proved in. No condition.
-/
import Derived.Test.YteehcinnfiaklaaGreatDoorQE5
set_option maxRecDepth 100000
set_option maxHeartbeats 4000000
set_option linter.unusedVariables false
set_option linter.unusedSimpArgs false
set_option linter.unusedSectionVars false
namespace Go.Abs
open Go Go.Proofs Tryz
attribute [local irreducible] y4 Hold y9
abbrev zPW (l : List Nat) : AV := .list (l.map nV)
noncomputable def zPF : Code := sub [0, 1, 0, 1, 1, 1] (W9 Tryz.f102)
noncomputable def zPX (fn : FuncId) : LoopK := ⟨fn, #[10], N2 zPF, N3 zPF, 23⟩
def zOo : Option (List Nat) → AV
 | none => .raw (.slice none 0 0)
 | some c => zPW c
@[go_sem] theorem zPv : zOo none = .raw (.slice none 0 0) := rfl
@[go_sem] theorem zPw (c : List Nat) : zOo (some c) = .list (c.map nV) := rfl
@[go_sem] theorem zPs (H : Nat → AObj) (m : List (Option Nat)) (ex : List Nat) (B : Option (List Nat)) : XpF H m ex (zOo B) (zOo B) ↔ True := by cases B <;> simp [zOo, XpF]
@[go_sem] theorem zP4 (f : Nat → Nat) (B : Option (List Nat)) : AV.ren f (zOo B) = zOo B := by cases B <;> simp [zOo, AV.ren]
@[go_sem] theorem zPx (B : Option (List Nat)) : (zOo B).cells = [zOo B] := by cases B <;> rfl
@[go_sem] theorem zP2 (B : Option (List Nat)) : (zOo B).one = true := by cases B <;> rfl
@[go_sem] theorem zPz (B : Option (List Nat)) : (zOo B).flat = true := by cases B <;> rfl
@[go_sem] theorem zP8 (B : Option (List Nat)) : (zOo B).sized = true := by cases B <;> rfl
abbrev zPj : AV := fnV 103
abbrev zP1 (c : List Nat) : Prop := c.length ≤ 1000
end Go.Abs

namespace Go.Abs
open Go Go.Proofs Tryz
attribute [local irreducible] y4 Hold y9
def zP6 (l : List Str) (s : Nat) : List (List Nat) := (List.range' s (2 ^ l.length - s)).filterMap fun set => if J3 (zHA l set) = true then some (zGs l.length set) else none
def zP5 (l : List Str) (set i : Nat) : List Str := ((List.range i).filter fun i => !set.testBit i).map fun i => l.getD i default
def zPE (a b : Int) : Int := IntKind.i64.wrap (BitVec.ofInt IntKind.i64.bits a &&& BitVec.ofInt IntKind.i64.bits b).toNat
def zPK (a : Int) (k : Nat) : Int := a.fdiv (2 ^ (min k IntKind.i64.bits))
@[go_sem ↓] theorem zP0 (a b : Int) (K : Cont) : zNy .and .i64 a b K = K (iV (zPE a b)) [] [] := rfl
@[go_sem ↓] theorem zP7 (a b : Int) (K : Cont) : S5 .shr .i64 a b K = (0 ≤ b ∧ K (iV (zPK a b.toNat)) [] []) := rfl
def zQI (set i : Nat) : Int := zPE (zPK set i) 1
set_option maxRecDepth 100000 in
noncomputable abbrev zPy (fn : FuncId) (B : Option (List Nat)) : List AObj := [.loopo (zPX fn) [(3, .ptr 1 0), (6, .ptr 2 0), (7, .ptr 3 0)] (some none), .box [zPj], .box [zOo B], .box [bV B.isSome]]
end Go.Abs

namespace Go.Abs
open Go Go.Proofs Tryz
attribute [local irreducible] y4 Hold y9
end Go.Abs

namespace Go.Abs
open Go Go.Proofs Tryz
attribute [local irreducible] y4 Hold y9
@[go_sem, simp] theorem zPR {α : Type} (H : Nat → AObj) (m : List (Option Nat)) (ex : List Nat) (f : α → List AV) (l : List α) (x y : AV) : XpL H m ex (List.map (fun t => AV.list (f t)) l ++ [x]) (List.map (fun t => AV.list (f t)) l ++ [y]) ↔ XpF H m ex x y := by
 rw [zDZ _ (fun z hz => by
  obtain ⟨t, _, rfl⟩ := List.mem_map.1 hz
  simp only [XpF])]
@[go_sem, simp] theorem zPu {α : Type} (H : Nat → AObj) (m : List (Option Nat)) (ex : List Nat) (f : α → List AV) (l : List α) : XpL H m ex (List.map (fun t => AV.list (f t)) l) (List.map (fun t => AV.list (f t)) l) ↔ True := ⟨fun _ => trivial, fun _ => zDa (fun x => by simp only [XpF]) _⟩
def zOm (n : Nat) : Nat → Nat → List (List Int)
 | 0, _ => [[]]
 | _ + 1, 0 => []
 | m + 1, r + 1 => (zOm n m r).map (fun l => (((n - (r + 1) : Nat) : Int)) :: l) ++ zOm n (m + 1) r
@[go_sem, simp] theorem zPt (H : Nat → AObj) (m : List (Option Nat)) (ex : List Nat) (l : List (List Int)) (x y : AV) : XpL H m ex (List.map T1 l ++ [x]) (List.map T1 l ++ [y]) ↔ XpF H m ex x y := zPR H m ex (fun t => t.map iV) l x y
end Go.Abs

namespace Go.Abs
open Go Go.Proofs Tryz
attribute [local irreducible] y4 Hold y9
def wTo (l : List Str) (c : List Int) (i : Nat) : List Str := ((List.range i).filter fun (j : Nat) => !(c.any (· == (j : Int)))).map fun j => l.getD j default
def WOK (l : List Str) (c : List Int) (i : Nat) (acc : List Str) : Prop := acc = wTo l c i
def zPq (c : List Int) (i : Nat) (k : Nat) (b : Bool) : Prop := b = (c.take k).any (· == (i : Int))
def zQH (q : List Str) (t : Nat) : Prop := ∀ j, j < t → ¬ o5 (q.getD (j + 1) []) (q.getD j []) < 0
end Go.Abs

namespace Go.Abs
open Go Go.Proofs Tryz
attribute [local irreducible] y4 Hold y9
def zOp (n : Int) : List Int → Nat → Int
 | [], _ => -1
 | x :: r, i => if x = n then i else zOp n r (i + 1)
theorem zO4 (n : Int) : ∀ (l : List Int) (i : Nat), (zOp n l i ≥ 0) = (n ∈ l)
 | [], i => by simp [zOp]
 | x :: r, i => by
  rw [zOp]
  by_cases h : x = n
  ·rw [if_pos h]; simp [h]
  ·rw [if_neg h, zO4 n r (i + 1)]; simp [Ne.symm h]
theorem zPL (l : List Int) (n : Int) (h1 : l.length ≤ 4294967296) : zNF prog 66 [T1 l, iV n] [] (iV (zOp n l 0)) [] := by
 obtain ⟨R, hR⟩ : ∃ R, zOp n (l.drop 0) 0 = R := ⟨_, rfl⟩
 have hR1 : zOp n l 0 = R := hR
 rw [hR1]
 clear hR1
 refine q9 func66 rfl (fun E hE => ?_); simp only [go_sem, ntmps66]
 repeat' (first | (refine Qr rfl ?_; try intro _ hK; try simp only [go_sem, *]) | refine Qh rfl ?_ | (refine Qc rfl rfl ?_ ?_ <;> (intro hb; have hc := hb; try simp only [go_sem] at hc)) | refine q8 rfl ?_ | ((with_reducible apply And.intro); focus omega) | (refine q7 hK ?_; clear hK; simp only [go_sem, *]) | simp only [q6, z8, go_sem, *])
 all_goals try contradiction
 refine n0 rfl (l.length) (fun i => zOp n (l.drop i) i = R) 19 (fun i => [(5, iV i), (0, T1 l), (1, iV n)]) (fun i => []) [] [] (by exact hR) ?_; intro i hi hP
 clear hR
 by_cases hi : i < l.length
 ·have hi3 : (i : Int) < l.length := by omega
  rw [j3 hi, zOp] at hP
  generalize hz : l.getD i default = z at *
  by_cases hq : z = n
  ·rw [if_pos hq] at hP
   subst hP hq
   repeat' (first | (refine Qr rfl ?_; try intro _ hK; try simp only [go_sem, *]) | refine Qh rfl ?_ | (refine Qc rfl rfl ?_ ?_ <;> (intro hb; have hc := hb; try simp only [go_sem] at hc)) | refine q8 rfl ?_ | ((with_reducible apply And.intro); focus omega) | (refine q7 hK ?_; clear hK; simp only [go_sem, *]) | simp only [q6, z8, go_sem, *])
   all_goals try contradiction
   (refine ⟨[_], [], [], ⟨rfl, trivial⟩, ?_⟩; simp only [go_sem, *])
  ·rw [if_neg hq] at hP
   repeat' (first | (refine Qr rfl ?_; try intro _ hK; try simp only [go_sem, *]) | refine Qh rfl ?_ | (refine Qc rfl rfl ?_ ?_ <;> (intro hb; have hc := hb; try simp only [go_sem] at hc)) | refine q8 rfl ?_ | ((with_reducible apply And.intro); focus omega) | (refine q7 hK ?_; clear hK; simp only [go_sem, *]) | simp only [q6, z8, go_sem, *])
   all_goals try contradiction
   exact d7 (i' := i + 1) [] [] (by exact hP)
 ·have hi3 : ¬ (i : Int) < l.length := by omega
  rw [c0 (by omega), zOp] at hP
  subst hP
  have hw : IntKind.i64.wrap (-1) = (-1 : Int) := wrap_i64 (by omega) (by omega)
  repeat' (first | (refine Qr rfl ?_; try intro _ hK; try simp only [go_sem, *]) | refine Qh rfl ?_ | (refine Qc rfl rfl ?_ ?_ <;> (intro hb; have hc := hb; try simp only [go_sem] at hc)) | refine q8 rfl ?_ | ((with_reducible apply And.intro); focus omega) | (refine q7 hK ?_; clear hK; simp only [go_sem, *]) | simp only [q6, z8, go_sem, *])
  all_goals try contradiction
  (refine ⟨[_], [], [], ⟨rfl, trivial⟩, ?_⟩; simp only [go_sem, *])
def zPr (l : List Str) (i : Nat) (S : List Str) : Prop := S = (zMp l).take i
def zPp (S : List Str) (i f : Nat) : Prop := ∀ j, f ≤ j → j ≤ i → S.getD j default = S.getD i default
end Go.Abs

namespace Go.Abs
open Go Go.Proofs Tryz
attribute [local irreducible] y4 Hold y9
theorem zOw (t : Str) : w4 (t ++ [46]) = t := by
 unfold w4
 rw [List.length_append, List.length_singleton, Nat.add_sub_cancel, List.take_left']
 rfl
theorem zPJ {t : Str} (h1 : 1 ≤ t.length) (h2 : t.length ≤ 12) (h3 : t.all y8 = true) : r4 (t ++ [46]) = true := by
 unfold r4
 rw [zOw, zI5 (by simp)]
 have e : (t ++ [46]).getD ((t ++ [46]).length - 1) 0 = 46 := by
  rw [List.length_append, List.length_singleton, Nat.add_sub_cancel]
  simp [List.getD]
 rw [e]
 unfold x7
 simp [h1, h2, h3]
theorem zOy {a b : Str} (h : a.Sublist b) (hb : b.all y8 = true) : a.all y8 = true :=
 List.all_eq_true.2 fun x hx => List.all_eq_true.1 hb x (h.subset hx)
theorem zPa {kk t : Str} (h : 1 ≤ kk.length ∧ kk.length ≤ 12 ∧ kk.all y8 = true) (hu : ∃ u : Str, t = kk.take 1 ++ u ∧ u.Sublist (kk.drop 1)) : 1 ≤ t.length ∧ t.length ≤ 12 ∧ t.all y8 = true := by
 obtain ⟨u, rfl, hs⟩ := hu
 have h1 : (kk.take 1 ++ u).Sublist kk := by
  have := List.Sublist.append (List.Sublist.refl (kk.take 1)) hs
  rwa [List.take_append_drop] at this
 have hl := h1.length_le
 refine ⟨?_, by omega, zOy h1 h.2.2⟩
 rw [List.length_append, List.length_take]; omega
theorem zPT {t : Str} {n : Nat} (h : n < t.length) : (t ++ [46]).take n ++ (t ++ [46]).drop (n + 1) = (t.take n ++ t.drop (n + 1)) ++ [46] := by
 rw [List.take_append_of_le_length (by omega), List.drop_append_of_le_length (by omega), List.append_assoc]
theorem zPU {t : Str} {n : Nat} (h0 : 0 < n) (h : n < t.length) (h2 : t.length ≤ 12) (h3 : t.all y8 = true) : 1 ≤ (t.take n ++ t.drop (n + 1)).length ∧ (t.take n ++ t.drop (n + 1)).length ≤ 12 ∧ (t.take n ++ t.drop (n + 1)).all y8 = true := by
 refine ⟨by simp; omega, by simp; omega, ?_⟩
 rw [List.all_append, Bool.and_eq_true]
 exact ⟨zOy (List.take_sublist _ _) h3, zOy (List.drop_sublist _ _) h3⟩
theorem zO0 {t : Str} {l : List Str} (h : 1 ≤ t.length ∧ t.length ≤ 12 ∧ t.all y8 = true) (hl : u9 l = 0) : Z4 (t ++ [46]) l = 0 := by
 unfold Z4
 rw [zPJ h.1 h.2.1 h.2.2, if_pos rfl, hl]
theorem zPP (t : Str) (l : List Str) : zNv (t ++ [46]) l = j9 t l 0 := by unfold zNv; rw [zOw]
theorem zQA (nums : List Int) (h : nums.length ≤ 4294967296) : zNF prog 19 [T1 nums] [] (bV true) [] := by
 obtain ⟨d0, s0, hd0⟩ := zKX nums h
 obtain ⟨l0, d1, s1, v0, hl0, hd1⟩ := zLV d0 5 6 hd0 (by omega) (by omega)
 obtain ⟨x, d2, s2, vx, hd2⟩ := zLU d1 6 hd1 (by omega)
 obtain ⟨L, hmap, hll, hvL, -⟩ := zLS v0 vx
 have vj := hvL _ (o7 (l := L) (i := l0.length) (by omega))
 have sK := zMv (L.getD l0.length default) (by have := vj.len; omega)
 rw [if_pos (checkN_zero.2 vj), checkN_zero.2 vj] at sK
 have hk12 := zB1 vj
 generalize zNG (L.getD l0.length default) = kk at *
 obtain ⟨t, d3, s3, hd3, -, htu⟩ := zMl d2 kk hd2 (by omega)
 have ht := zPa hk12 (htu (by omega))
 have hLe : u9 L = 0 := zGO hvL (by omega)
 have sT := zMu (t ++ [46]) L (zO0 ht hLe)
 rw [zPP] at sT
 have hTl : (j9 t L 0).length ≤ L.length := zM1 _ 0 rfl
 have hTt : List.take (j9 t L 0).length (List.map iV (j9 t L 0)) = List.map iV (j9 t L 0) := List.take_of_length_le (by simp)
 have htk : List.take (l0.length + 1) (List.map sV L) = List.map sV L := List.take_of_length_le (by simp; omega)
 have hw0 : IntKind.i64.wrap (((l0.length + 1 : Nat) : Int) - 1) = (l0.length : Int) := by rw [wrap_i64 (by omega) (by omega)]; omega
 have hLn : l0.length < l0.length + 1 := by omega
 have hTg : ¬ ((j9 t L 0).length : Int) > ((l0.length + 1 : Nat) : Int) := by omega
 have sS := zMz
 have hmem := fun z => mem_std (k := t) (l := L) (z := z)
 clear v0 vx vj hd0 hd1 hd2 hd3 h htu hk12
 obtain ⟨T, hT⟩ : ∃ T, j9 t L 0 = T := ⟨_, rfl⟩
 rw [hT] at sT hTl hTt hTg
 simp only [hT] at hmem
 clear hT
 obtain ⟨S, hS⟩ : ∃ S, t ++ [46] = S := ⟨_, rfl⟩
 have hSl : S.length = t.length + 1 := by rw [← hS]; simp
 rw [hS] at sT s3
 refine q9 func19 rfl (fun E hE => ?_); simp only [go_sem, ntmps19]
 repeat' (first | (refine Qr rfl ?_; try intro _ hK; try simp only [go_sem, *]) | (refine Qi rfl rfl rfl rfl ?_ ?_ <;> (intro hb; (try intro _ hK); have hc := hb; try simp only [go_sem] at hc; simp only [go_sem, *])) | refine Qh rfl ?_ | refine Qd rfl (by kernel_rfl) ?_ | (refine Qc rfl rfl ?_ ?_ <;> (intro hb; have hc := hb; try simp only [go_sem] at hc)) | refine q8 rfl ?_ | (refine Qb ?_ ?_; focus kernel_rfl) | (refine j1 (s0) ?_; simp only [go_sem, *]) | ((with_reducible apply And.intro); focus omega) | (refine q7 hK ?_; clear hK; simp only [go_sem, *]) | simp only [q6, z8, go_sem, *])
 refine v8 [0] s1 ?_
 simp only [go_sem, *]
 repeat' (first | (refine Qr rfl ?_; try intro _ hK; try simp only [go_sem, *]) | (refine Qi rfl rfl rfl rfl ?_ ?_ <;> (intro hb; (try intro _ hK); have hc := hb; try simp only [go_sem] at hc; simp only [go_sem, *])) | refine Qh rfl ?_ | refine Qd rfl (by kernel_rfl) ?_ | (refine Qc rfl rfl ?_ ?_ <;> (intro hb; have hc := hb; try simp only [go_sem] at hc)) | refine q8 rfl ?_ | (refine Qb ?_ ?_; focus kernel_rfl) | ((with_reducible apply And.intro); focus omega) | (refine q7 hK ?_; clear hK; simp only [go_sem, *]) | simp only [q6, z8, go_sem, *])
 refine v8 [0] s2 ?_
 simp only [go_sem, *]
 repeat' (first | ((with_reducible refine zM2 [0, 1, 1, 1] ?_)) | (refine Qr rfl ?_; try intro _ hK; try simp only [go_sem, *]) | (refine Qi rfl rfl rfl rfl ?_ ?_ <;> (intro hb; (try intro _ hK); have hc := hb; try simp only [go_sem] at hc; simp only [go_sem, *])) | refine Qh rfl ?_ | refine Qd rfl (by kernel_rfl) ?_ | (refine Qc rfl rfl ?_ ?_ <;> (intro hb; have hc := hb; try simp only [go_sem] at hc)) | refine q8 rfl ?_ | (refine Qb ?_ ?_; focus kernel_rfl) | ((with_reducible apply And.intro); focus omega) | (refine q7 hK ?_; clear hK; simp only [go_sem, *]) | simp only [q6, z8, go_sem, *])
 all_goals try contradiction
 refine ⟨?_⟩
 refine T5 (N := 157) (env := [(3, .ptr 0 0), (4, y7 L)]) (As := [w7 d2]) [some 0] [3] (by (simp only [Weak, go_sem, List.map_append, List.map_set, *] <;> (try simp (disch := omega) only [t6]) <;> (try simp) <;> (try omega))) ?_
 clear s0 s1 s2 htk hmap
 repeat' (first | (refine Qr rfl ?_; try intro _ hK; try simp only [go_sem, *]) | (refine Qi rfl rfl rfl rfl ?_ ?_ <;> (intro hb; (try intro _ hK); have hc := hb; try simp only [go_sem] at hc; simp only [go_sem, *])) | refine Qh rfl ?_ | refine Qd rfl (by kernel_rfl) ?_ | (refine Qc rfl rfl ?_ ?_ <;> (intro hb; have hc := hb; try simp only [go_sem] at hc)) | refine q8 rfl ?_ | (refine Qb ?_ ?_; focus kernel_rfl) | (refine x5 (sK) ?_ ?_; (focus (simp only [go_sem, *]; done)); simp only [go_sem, *]) | ((with_reducible apply And.intro); focus omega) | (refine q7 hK ?_; clear hK; simp only [go_sem, *]) | simp only [q6, z8, go_sem, *])
 refine v8 [0] s3 ?_
 simp only [go_sem, *]
 repeat' (first | ((with_reducible refine zM2 [0, 1, 1, 1, 1, 1, 1] ?_)) | (refine Qr rfl ?_; try intro _ hK; try simp only [go_sem, *]) | (refine Qi rfl rfl rfl rfl ?_ ?_ <;> (intro hb; (try intro _ hK); have hc := hb; try simp only [go_sem] at hc; simp only [go_sem, *])) | refine Qh rfl ?_ | refine Qd rfl (by kernel_rfl) ?_ | (refine Qc rfl rfl ?_ ?_ <;> (intro hb; have hc := hb; try simp only [go_sem] at hc)) | refine q8 rfl ?_ | (refine Qb ?_ ?_; focus kernel_rfl) | (refine j1 (sT) ?_; simp only [go_sem, *]) | ((with_reducible apply And.intro); focus omega) | (refine q7 hK ?_; clear hK; simp only [go_sem, *]) | simp only [q6, z8, go_sem, *])
 all_goals try contradiction
 refine ⟨?_⟩
 refine T5 (N := 157) (env := [(9, iV 0), (8, T1 T), (7, sV S), (4, y7 L)]) (As := []) [] [1] (by (simp only [Weak, go_sem, List.map_append, List.map_set, *] <;> (try simp (disch := omega) only [t6]) <;> (try simp) <;> (try omega))) ?_
 clear s3 sT hTt hw0 hLn sK
 have hkl : ∀ j, j < L.length → 1 ≤ (zNG (L.getD j default)).length ∧ (zNG (L.getD j default)).length ≤ 12 := fun j hj => by have := zB1 (hvL _ (o7 hj)); omega
 have hKk := fun j (hj : j < L.length) => zMr (hvL _ (o7 hj))
 have hSh := fun j (hj : j < L.length) => zMs S (L.getD j default) (by omega)
 have hSv : ∀ j, j < L.length → zNu S (L.getD j default) = u0 t (zNG (L.getD j default)) ∧ zNk S (L.getD j default) = 0 := fun j hj => by
  have hc := checkN_zero.2 (hvL _ (o7 hj))
  have e1 : zNk S (L.getD j default) = 0 := by unfold zNk; rw [← hS, zPJ ht.1 ht.2.1 ht.2.2, if_pos rfl, hc]
  refine ⟨?_, e1⟩
  unfold zNu
  rw [e1, if_pos rfl, ← hS, zOw]
 have hCut : ∀ n, 0 < n → n < t.length → S.take n ++ S.drop (n + 1) = (t.take n ++ t.drop (n + 1)) ++ [46] := fun n _ h => by rw [← hS]; exact zPT h
 clear hvL hS
 repeat' (first | (refine Qr rfl ?_; try intro _ hK; try simp only [go_sem, *]) | (refine Qi rfl rfl rfl rfl ?_ ?_ <;> (intro hb; (try intro _ hK); have hc := hb; try simp only [go_sem] at hc; simp only [go_sem, *])) | refine Qh rfl ?_ | refine Qd rfl (by kernel_rfl) ?_ | (refine Qc rfl rfl ?_ ?_ <;> (intro hb; have hc := hb; try simp only [go_sem] at hc)) | refine q8 rfl ?_ | (refine Qb ?_ ?_; focus kernel_rfl) | ((with_reducible apply And.intro); focus omega) | (refine q7 hK ?_; clear hK; simp only [go_sem, *]) | simp only [q6, z8, go_sem, *])
 all_goals first | contradiction | omega | skip
 refine n0 rfl (T.length) (fun i => NoQ i) 157 (fun i => [(10, iV i), (8, T1 T), (7, sV S), (4, y7 L)]) (fun i => []) [] [] (by trivial) ?_; intro i hi hP
 by_cases hi2 : i < T.length
 ·have hii : (i : Int) < (T.length : Int) := by omega
  have hwi : IntKind.i64.wrap ((i : Int) + 1) = ((i + 1 : Nat) : Int) := t6 (by omega)
  obtain ⟨j, hz, hj, hst⟩ := (hmem _).1 (o7 hi2)
  have t3 := hKk j hj
  have hj0 : ¬ (j : Int) < 0 := by omega
  have hj1 : ¬ (j : Int) ≥ ((l0.length + 1 : Nat) : Int) := by omega
  have hj2 : j < l0.length + 1 := by omega
  have hlen : ¬ ((zNG (L.getD j default)).length : Int) < (S.length : Int) := by
   unfold u0 at hst
   rw [Bool.and_eq_true, decide_eq_true_eq] at hst
   omega
  rw [hSl] at hlen
  clear hmem hKk hSh hSv hCut hkl hst
  generalize hze : T.getD i default = z at *
  subst hz
  generalize hye : L.getD j default = y at *
  generalize zNG y = ky at *
  repeat' (first | (refine Qr rfl ?_; try intro _ hK; try simp only [go_sem, *]) | (refine Qi rfl rfl rfl rfl ?_ ?_ <;> (intro hb; (try intro _ hK); have hc := hb; try simp only [go_sem] at hc; simp only [go_sem, *])) | refine Qh rfl ?_ | refine Qd rfl (by kernel_rfl) ?_ | (refine Qc rfl rfl ?_ ?_ <;> (intro hb; have hc := hb; try simp only [go_sem] at hc)) | refine q8 rfl ?_ | (refine Qb ?_ ?_; focus kernel_rfl) | (refine x5 (t3) ?_ ?_; (focus (simp only [go_sem, *]; done)); simp only [go_sem, *]) | ((with_reducible apply And.intro); focus omega) | (refine q7 hK ?_; clear hK; simp only [go_sem, *]) | simp only [q6, z8, go_sem, *])
  all_goals first | contradiction | omega | skip
  exact d7 (i' := i + 1) [] [] (by trivial)
 ·have hii : ¬ (i : Int) < (T.length : Int) := by omega
  repeat' (first | (refine Qr rfl ?_; try intro _ hK; try simp only [go_sem, *]) | (refine Qi rfl rfl rfl rfl ?_ ?_ <;> (intro hb; (try intro _ hK); have hc := hb; try simp only [go_sem] at hc; simp only [go_sem, *])) | refine Qh rfl ?_ | refine Qd rfl (by kernel_rfl) ?_ | (refine Qc rfl rfl ?_ ?_ <;> (intro hb; have hc := hb; try simp only [go_sem] at hc)) | refine q8 rfl ?_ | (refine Qb ?_ ?_; focus kernel_rfl) | ((with_reducible apply And.intro); focus omega) | (refine q7 hK ?_; clear hK; simp only [go_sem, *]) | simp only [q6, z8, go_sem, *])
  all_goals first | contradiction | omega | skip
  refine n0 rfl (t.length - 1) (fun n => NoQ n) 157 (fun n => [(13, iV ((n + 1 : Nat) : Int)), (8, T1 T), (7, sV S), (4, y7 L)]) (fun n => []) [] [] (by trivial) ?_; intro n hn hQ
  have hwS : IntKind.i64.wrap (((t.length + 1 : Nat) : Int) - 1) = (t.length : Int) := by rw [wrap_i64 (by omega) (by omega)]; omega
  by_cases hn2 : n + 1 < t.length
  ·have hnn : ((n + 1 : Nat) : Int) < (t.length : Int) := by omega
   have hwn : IntKind.i64.wrap (((n + 1 : Nat) : Int) + 1) = ((n + 1 + 1 : Nat) : Int) := t6 (by omega)
   have hc := zPU (t := t) (n := n + 1) (by omega) hn2 ht.2.1 ht.2.2
   have sT2 := zMu ((t.take (n + 1) ++ t.drop (n + 1 + 1)) ++ [46]) L (zO0 hc hLe)
   rw [zPP, ← hCut (n + 1) (by omega) hn2] at sT2
   have hst : ∀ z, z ∈ T → z ∈ j9 (t.take (n + 1) ++ t.drop (n + 1 + 1)) L 0 := fun z hz => by
    obtain ⟨j, rfl, hj, hs⟩ := (hmem z).1 hz
    exact mem_std.2 ⟨j, rfl, hj, zM0 hs (by omega) hn2⟩
   have hT2l : (j9 (t.take (n + 1) ++ t.drop (n + 1 + 1)) L 0).length ≤ L.length := zM1 _ 0 rfl
   have hT2t : List.take (j9 (t.take (n + 1) ++ t.drop (n + 1 + 1)) L 0).length (List.map iV (j9 (t.take (n + 1) ++ t.drop (n + 1 + 1)) L 0)) = List.map iV (j9 (t.take (n + 1) ++ t.drop (n + 1 + 1)) L 0) := List.take_of_length_le (by simp)
   generalize j9 (t.take (n + 1) ++ t.drop (n + 1 + 1)) L 0 = T2 at *
   have htS : List.take (t.length + 1) S = S := List.take_of_length_le (by omega)
   have hS1 : n + 1 ≤ t.length + 1 := by omega
   have hS2 : n + 1 + 1 ≤ t.length + 1 := by omega
   clear hmem hKk hSh hSv hCut hkl hc
   repeat' (first | ((with_reducible refine zM2 [0, 1, 0, 0, 1, 0, 0, 1, 0, 1, 1, 1, 1, 1, 1, 1, 1] ?_)) | (refine Qr rfl ?_; try intro _ hK; try simp only [go_sem, *]) | (refine Qi rfl rfl rfl rfl ?_ ?_ <;> (intro hb; (try intro _ hK); have hc := hb; try simp only [go_sem] at hc; simp only [go_sem, *])) | refine Qh rfl ?_ | refine Qd rfl (by kernel_rfl) ?_ | (refine Qc rfl rfl ?_ ?_ <;> (intro hb; have hc := hb; try simp only [go_sem] at hc)) | refine q8 rfl ?_ | (refine Qb ?_ ?_; focus kernel_rfl) | (refine j1 (sT2) ?_; simp only [go_sem, *]) | ((with_reducible apply And.intro); focus omega) | (refine q7 hK ?_; clear hK; simp only [go_sem, *]) | simp only [q6, z8, go_sem, *])
   all_goals first | contradiction | omega | skip
   refine ⟨?_⟩
   refine T5 (N := 157) (env := [(15, iV 0), (14, T1 T2), (13, iV ((n + 1 : Nat) : Int)), (8, T1 T), (7, sV S), (4, y7 L)]) (As := []) [] [0] (by (simp only [Weak, go_sem, List.map_append, List.map_set, *] <;> (try simp (disch := omega) only [t6]) <;> (try simp) <;> (try omega))) ?_
   clear sT2 hT2t
   repeat' (first | (refine Qr rfl ?_; try intro _ hK; try simp only [go_sem, *]) | (refine Qi rfl rfl rfl rfl ?_ ?_ <;> (intro hb; (try intro _ hK); have hc := hb; try simp only [go_sem] at hc; simp only [go_sem, *])) | refine Qh rfl ?_ | refine Qd rfl (by kernel_rfl) ?_ | (refine Qc rfl rfl ?_ ?_ <;> (intro hb; have hc := hb; try simp only [go_sem] at hc)) | refine q8 rfl ?_ | (refine Qb ?_ ?_; focus kernel_rfl) | ((with_reducible apply And.intro); focus omega) | (refine q7 hK ?_; clear hK; simp only [go_sem, *]) | simp only [q6, z8, go_sem, *])
   all_goals first | contradiction | omega | skip
   refine n0 rfl (T.length) (fun j => NoQ j) 157 (fun j => [(16, iV j), (14, T1 T2), (13, iV ((n + 1 : Nat) : Int)), (8, T1 T), (7, sV S), (4, y7 L)]) (fun j => []) [] [] (by trivial) ?_; intro j hj hQ2
   by_cases hj2 : j < T.length
   ·have hjj : (j : Int) < (T.length : Int) := by omega
    have hwj : IntKind.i64.wrap ((j : Int) + 1) = ((j + 1 : Nat) : Int) := t6 (by omega)
    have hm2 := hst _ (o7 hj2)
    have sI := zPL T2 (T.getD j default) (by omega)
    have hge : zOp (T.getD j default) T2 0 ≥ 0 := by rw [zO4]; exact hm2
    have hlt : ¬ zOp (T.getD j default) T2 0 < 0 := by omega
    generalize zOp (T.getD j default) T2 0 = r at *
    generalize hze : T.getD j default = z at *
    clear hst
    repeat' (first | (refine Qr rfl ?_; try intro _ hK; try simp only [go_sem, *]) | (refine Qi rfl rfl rfl rfl ?_ ?_ <;> (intro hb; (try intro _ hK); have hc := hb; try simp only [go_sem] at hc; simp only [go_sem, *])) | refine Qh rfl ?_ | refine Qd rfl (by kernel_rfl) ?_ | (refine Qc rfl rfl ?_ ?_ <;> (intro hb; have hc := hb; try simp only [go_sem] at hc)) | refine q8 rfl ?_ | (refine Qb ?_ ?_; focus kernel_rfl) | (refine x5 (sI) ?_ ?_; (focus (simp only [go_sem, *]; done)); simp only [go_sem, *]) | ((with_reducible apply And.intro); focus omega) | (refine q7 hK ?_; clear hK; simp only [go_sem, *]) | simp only [q6, z8, go_sem, *])
    all_goals first | contradiction | omega | skip
    exact d7 (i' := j + 1) [] [] (by trivial)
   ·have hjj : ¬ (j : Int) < (T.length : Int) := by omega
    clear hst
    repeat' (first | (refine Qr rfl ?_; try intro _ hK; try simp only [go_sem, *]) | (refine Qi rfl rfl rfl rfl ?_ ?_ <;> (intro hb; (try intro _ hK); have hc := hb; try simp only [go_sem] at hc; simp only [go_sem, *])) | refine Qh rfl ?_ | refine Qd rfl (by kernel_rfl) ?_ | (refine Qc rfl rfl ?_ ?_ <;> (intro hb; have hc := hb; try simp only [go_sem] at hc)) | refine q8 rfl ?_ | (refine Qb ?_ ?_; focus kernel_rfl) | ((with_reducible apply And.intro); focus omega) | (refine q7 hK ?_; clear hK; simp only [go_sem, *]) | simp only [q6, z8, go_sem, *])
    all_goals first | contradiction | omega | skip
    exact d7 (i' := n + 1) [] [] (by trivial)
  ·have hnn : ¬ ((n + 1 : Nat) : Int) < (t.length : Int) := by omega
   clear hCut
   repeat' (first | (refine Qr rfl ?_; try intro _ hK; try simp only [go_sem, *]) | (refine Qi rfl rfl rfl rfl ?_ ?_ <;> (intro hb; (try intro _ hK); have hc := hb; try simp only [go_sem] at hc; simp only [go_sem, *])) | refine Qh rfl ?_ | refine Qd rfl (by kernel_rfl) ?_ | (refine Qc rfl rfl ?_ ?_ <;> (intro hb; have hc := hb; try simp only [go_sem] at hc)) | refine q8 rfl ?_ | (refine Qb ?_ ?_; focus kernel_rfl) | ((with_reducible apply And.intro); focus omega) | (refine q7 hK ?_; clear hK; simp only [go_sem, *]) | simp only [q6, z8, go_sem, *])
   all_goals first | contradiction | omega | skip
   refine n0 rfl (L.length) (fun k => NoQ k) 157 (fun k => [(17, iV k), (8, T1 T), (7, sV S), (4, y7 L)]) (fun k => []) [] [] (by trivial) ?_; intro k hk hR
   by_cases hk2 : k < L.length
   ·have hkk : (k : Int) < ((l0.length + 1 : Nat) : Int) := by omega
    have hk3 : k < l0.length + 1 := by omega
    have hwk : IntKind.i64.wrap ((k : Int) + 1) = ((k + 1 : Nat) : Int) := t6 (by omega)
    have t5 := hSh k hk2
    rw [(hSv k hk2).1, (hSv k hk2).2] at t5
    have sI := zPL T (k : Int) (by omega)
    have hge := zO4 (k : Int) T 0
    have hmk : ((k : Int) ∈ T) = (u0 t (zNG (L.getD k default)) = true) := by
     rw [hmem]
     apply propext
     constructor
     ·rintro ⟨i, hi, _, h⟩
      have : k = i := by omega
      subst this; exact h
     ·intro h; exact ⟨k, rfl, hk2, h⟩
    rw [hmk] at hge
    clear hmk hmem hKk hSh hSv hkl
    generalize zOp (k : Int) T 0 = r at *
    generalize hye : L.getD k default = y at *
    generalize zNG y = ky at *
    cases hst : u0 t ky with
    | true =>
     rw [hst] at t5 hge
     have hr : r ≥ 0 := by rw [hge]
     clear hge hst
     repeat' (first | (refine Qr rfl ?_; try intro _ hK; try simp only [go_sem, *]) | (refine Qi rfl rfl rfl rfl ?_ ?_ <;> (intro hb; (try intro _ hK); have hc := hb; try simp only [go_sem] at hc; simp only [go_sem, *])) | refine Qh rfl ?_ | refine Qd rfl (by kernel_rfl) ?_ | (refine Qc rfl rfl ?_ ?_ <;> (intro hb; have hc := hb; try simp only [go_sem] at hc)) | refine q8 rfl ?_ | (refine Qb ?_ ?_; focus kernel_rfl) | (refine x5 (t5) ?_ ?_; (focus (simp only [go_sem, *]; done)); simp only [go_sem, *]) | (refine x5 (sI) ?_ ?_; (focus (simp only [go_sem, *]; done)); simp only [go_sem, *]) | ((with_reducible apply And.intro); focus omega) | (refine q7 hK ?_; clear hK; simp only [go_sem, *]) | simp only [q6, z8, go_sem, *])
     all_goals first | contradiction | omega | skip
     exact d7 (i' := k + 1) [] [] (by trivial)
    | false =>
     rw [hst] at t5 hge
     have hr : ¬ r ≥ 0 := by rw [hge]; simp
     clear hge hst
     repeat' (first | (refine Qr rfl ?_; try intro _ hK; try simp only [go_sem, *]) | (refine Qi rfl rfl rfl rfl ?_ ?_ <;> (intro hb; (try intro _ hK); have hc := hb; try simp only [go_sem] at hc; simp only [go_sem, *])) | refine Qh rfl ?_ | refine Qd rfl (by kernel_rfl) ?_ | (refine Qc rfl rfl ?_ ?_ <;> (intro hb; have hc := hb; try simp only [go_sem] at hc)) | refine q8 rfl ?_ | (refine Qb ?_ ?_; focus kernel_rfl) | (refine x5 (t5) ?_ ?_; (focus (simp only [go_sem, *]; done)); simp only [go_sem, *]) | (refine x5 (sI) ?_ ?_; (focus (simp only [go_sem, *]; done)); simp only [go_sem, *]) | ((with_reducible apply And.intro); focus omega) | (refine q7 hK ?_; clear hK; simp only [go_sem, *]) | simp only [q6, z8, go_sem, *])
     all_goals first | contradiction | omega | skip
     exact d7 (i' := k + 1) [] [] (by trivial)
   ·have hkk : ¬ (k : Int) < ((l0.length + 1 : Nat) : Int) := by omega
    clear hmem hKk hSh hSv hkl
    repeat' (first | (refine Qr rfl ?_; try intro _ hK; try simp only [go_sem, *]) | (refine Qi rfl rfl rfl rfl ?_ ?_ <;> (intro hb; (try intro _ hK); have hc := hb; try simp only [go_sem] at hc; simp only [go_sem, *])) | refine Qh rfl ?_ | refine Qd rfl (by kernel_rfl) ?_ | (refine Qc rfl rfl ?_ ?_ <;> (intro hb; have hc := hb; try simp only [go_sem] at hc)) | refine q8 rfl ?_ | (refine Qb ?_ ?_; focus kernel_rfl) | (refine j1 (sS) ?_; simp only [go_sem, *]) | ((with_reducible apply And.intro); focus omega) | (refine q7 hK ?_; clear hK; simp only [go_sem, *]) | simp only [q6, z8, go_sem, *])
    all_goals first | contradiction | omega | skip
    (refine ⟨[_], [], [], ⟨rfl, trivial⟩, ?_⟩; simp only [go_sem, *])
end Go.Abs

