/-
  WHAT THE PROOF STANDS ON, PART 6: contracts of the program's functions and the logic that they are proved in. No condition.
-/
import Derived.Test.YteehcinnfiaklaaGreatDoorQE5
set_option maxRecDepth 100000
set_option maxHeartbeats 4000000
set_option linter.unusedVariables false
set_option linter.unusedSimpArgs false
set_option linter.unusedSectionVars false
namespace Go.Abs
open Go Go.Proofs Tryz
attribute [local irreducible] y4 Hold y9
abbrev zPW (l : List Nat) : AV := .list (l.map nV)
noncomputable def zPF : Code := sub [0, 1, 0, 1, 1, 1] (W9 Tryz.f102)
noncomputable def zPX (fn : FuncId) : LoopK := ⟨fn, #[10], N2 zPF, N3 zPF, 23⟩
def zOo : Option (List Nat) → AV
 | none => .raw (.slice none 0 0)
 | some c => zPW c
@[go_sem] theorem zPv : zOo none = .raw (.slice none 0 0) := rfl
@[go_sem] theorem zPw (c : List Nat) : zOo (some c) = .list (c.map nV) := rfl
@[go_sem] theorem zPs (H : Nat → AObj) (m : List (Option Nat)) (ex : List Nat) (B : Option (List Nat)) : XpF H m ex (zOo B) (zOo B) ↔ True := by cases B <;> simp [zOo, XpF]
@[go_sem] theorem zP4 (f : Nat → Nat) (B : Option (List Nat)) : AV.ren f (zOo B) = zOo B := by cases B <;> simp [zOo, AV.ren]
@[go_sem] theorem zPx (B : Option (List Nat)) : (zOo B).cells = [zOo B] := by cases B <;> rfl
@[go_sem] theorem zP2 (B : Option (List Nat)) : (zOo B).one = true := by cases B <;> rfl
@[go_sem] theorem zPz (B : Option (List Nat)) : (zOo B).flat = true := by cases B <;> rfl
@[go_sem] theorem zP8 (B : Option (List Nat)) : (zOo B).sized = true := by cases B <;> rfl
abbrev zPj : AV := fnV 103
abbrev zP1 (c : List Nat) : Prop := c.length ≤ 1000
end Go.Abs

namespace Go.Abs
open Go Go.Proofs Tryz
attribute [local irreducible] y4 Hold y9
def zP6 (l : List Str) (s : Nat) : List (List Nat) := (List.range' s (2 ^ l.length - s)).filterMap fun set => if J3 (zHA l set) = true then some (zGs l.length set) else none
def zP5 (l : List Str) (set i : Nat) : List Str := ((List.range i).filter fun i => !set.testBit i).map fun i => l.getD i default
def zPE (a b : Int) : Int := IntKind.i64.wrap (BitVec.ofInt IntKind.i64.bits a &&& BitVec.ofInt IntKind.i64.bits b).toNat
def zPK (a : Int) (k : Nat) : Int := a.fdiv (2 ^ (min k IntKind.i64.bits))
@[go_sem ↓] theorem zP0 (a b : Int) (K : Cont) : zNy .and .i64 a b K = K (iV (zPE a b)) [] [] := rfl
@[go_sem ↓] theorem zP7 (a b : Int) (K : Cont) : S5 .shr .i64 a b K = (0 ≤ b ∧ K (iV (zPK a b.toNat)) [] []) := rfl
def zQI (set i : Nat) : Int := zPE (zPK set i) 1
set_option maxRecDepth 100000 in
noncomputable abbrev zPy (fn : FuncId) (B : Option (List Nat)) : List AObj := [.loopo (zPX fn) [(3, .ptr 1 0), (6, .ptr 2 0), (7, .ptr 3 0)] (some none), .box [zPj], .box [zOo B], .box [bV B.isSome]]
end Go.Abs

namespace Go.Abs
open Go Go.Proofs Tryz
attribute [local irreducible] y4 Hold y9
end Go.Abs

namespace Go.Abs
open Go Go.Proofs Tryz
attribute [local irreducible] y4 Hold y9
@[go_sem, simp] theorem zPR {α : Type} (H : Nat → AObj) (m : List (Option Nat)) (ex : List Nat) (f : α → List AV) (l : List α) (x y : AV) : XpL H m ex (List.map (fun t => AV.list (f t)) l ++ [x]) (List.map (fun t => AV.list (f t)) l ++ [y]) ↔ XpF H m ex x y := by
 rw [zDZ _ (fun z hz => by
  obtain ⟨t, _, rfl⟩ := List.mem_map.1 hz
  simp only [XpF])]
@[go_sem, simp] theorem zPu {α : Type} (H : Nat → AObj) (m : List (Option Nat)) (ex : List Nat) (f : α → List AV) (l : List α) : XpL H m ex (List.map (fun t => AV.list (f t)) l) (List.map (fun t => AV.list (f t)) l) ↔ True := ⟨fun _ => trivial, fun _ => zDa (fun x => by simp only [XpF]) _⟩
def zOm (n : Nat) : Nat → Nat → List (List Int)
 | 0, _ => [[]]
 | _ + 1, 0 => []
 | m + 1, r + 1 => (zOm n m r).map (fun l => (((n - (r + 1) : Nat) : Int)) :: l) ++ zOm n (m + 1) r
theorem zO2 (n r : Nat) : zOm n 0 r = [[]] := by cases r <;> rfl
theorem zPB (n : Nat) : ∀ (r m : Nat), r < m → zOm n m r = []
 | 0, 0, h => by omega
 | 0, m + 1, _ => rfl
 | r + 1, 0, h => by omega
 | r + 1, m + 1, h => by
  rw [zOm, zPB n r m (by omega), zPB n r (m + 1) (by omega)]
  rfl
theorem zO1 (n : Nat) : ∀ (r m : Nat) (l : List Int), r ≤ n → l ∈ zOm n m r → l.length = m ∧ ∀ k, k ∈ l → 0 ≤ k ∧ k < n
 | r, 0, l, _, h => by
  rw [zO2] at h
  rw [List.mem_singleton.1 h]
  exact ⟨rfl, fun k hk => by cases hk⟩
 | 0, m + 1, l, _, h => by cases h
 | r + 1, m + 1, l, hr, h => by
  rw [zOm] at h
  rcases List.mem_append.1 h with h | h
  ·obtain ⟨q, hq, rfl⟩ := List.mem_map.1 h
   obtain ⟨h1, h2⟩ := zO1 n r m q (by omega) hq
   refine ⟨by simp [h1], fun k hk => ?_⟩
   rcases List.mem_cons.1 hk with rfl | hk
   ·omega
   ·exact h2 k hk
  ·exact zO1 n r (m + 1) l (by omega) h
theorem zPA (n : Nat) : ∀ (r m : Nat), (zOm n m r).length ≤ 2 ^ r
 | r, 0 => by rw [zO2]; exact Nat.one_le_two_pow
 | 0, m + 1 => Nat.zero_le _
 | r + 1, m + 1 => by
  have h1 := zPA n r m
  have h2 := zPA n r (m + 1)
  rw [zOm, List.length_append, List.length_map, Nat.pow_succ]
  omega
@[go_sem, simp] theorem zPt (H : Nat → AObj) (m : List (Option Nat)) (ex : List Nat) (l : List (List Int)) (x y : AV) : XpL H m ex (List.map T1 l ++ [x]) (List.map T1 l ++ [y]) ↔ XpF H m ex x y := zPR H m ex (fun t => t.map iV) l x y
theorem zPo {n m i : Nat} (h : i < n) : zOm n (m + 1) (n - i) = (zOm n m (n - (i + 1))).map (fun l => (i : Int) :: l) ++ zOm n (m + 1) (n - (i + 1)) := by
 obtain ⟨r, hr⟩ : ∃ r, n - (i + 1) = r := ⟨_, rfl⟩
 have e : n - i = r + 1 := by omega
 have e2 : n - (r + 1) = i := by omega
 rw [e, hr, zOm, e2]
theorem zPC {n r m : Nat} (h : r ≤ 24) : (zOm n m r).length ≤ 16777216 := Nat.le_trans (zPA n r m) (Nat.pow_le_pow_right (by omega) h)
theorem zPO (n : Nat) (hn : n ≤ 24) : ∀ (m start : Nat), m ≤ 24 → start ≤ n →
  zNF prog 104 [iV start, iV n, iV m] [] (.list ((zOm n m (n - start)).map T1)) []
 | 0, start, hm, hs => by
  rw [zO2]
  refine q9 func104 rfl (fun E hE => ?_); simp only [go_sem, ntmps104]
  repeat' (first | (refine Qr rfl ?_; try intro _ hK; try simp only [go_sem, *]) | refine Qh rfl ?_ | (refine Qc rfl rfl ?_ ?_ <;> (intro hb; have hc := hb; try simp only [go_sem] at hc)) | refine q8 rfl ?_ | ((with_reducible apply And.intro); focus omega) | (refine q7 hK ?_; clear hK; simp only [go_sem, *]) | simp only [q6, z8, go_sem, *])
  all_goals try contradiction
  refine ⟨[.own 0 1 0 1], [], [0], ⟨rfl, trivial⟩, ?_⟩
  simp only [go_sem, *]
 | m + 1, start, hm, hs => by
  have IH := fun i (hi : i + 1 ≤ n) => zPO n hn m (i + 1) (by omega) hi
  have hRl := zPC (n := n) (r := n - start) (m := m + 1) (by omega)
  obtain ⟨R, hR0⟩ : ∃ R, ([] : List (List Int)) ++ zOm n (m + 1) (n - start) = R := ⟨_, rfl⟩
  have hR1 : zOm n (m + 1) (n - start) = R := hR0
  rw [hR1] at hRl ⊢
  clear hR1
  have hst := fun i => zPo (n := n) (m := m) (i := i)
  have hno := fun i => zPB n i (m + 1)
  have hw1 : IntKind.i64.wrap (((m + 1 : Nat) : Int) - 1) = (m : Int) := by rw [wrap_i64 (by omega) (by omega)]; omega
  have hz : (((m + 1 : Nat) : Int) == 0) = false := by rw [beq_eq_false_iff_ne]; omega
  obtain ⟨M, hM⟩ : ∃ M, M = m + 1 := ⟨_, rfl⟩
  rw [← hM] at hw1 hz hst hno hR0 ⊢
  have hM2 : m < M := by omega
  have hM3 : M ≤ 24 := by omega
  clear hM
  refine q9 func104 rfl (fun E hE => ?_); simp only [go_sem, ntmps104]
  repeat' (first | (refine Qr rfl ?_; try intro _ hK; try simp only [go_sem, *]) | refine Qh rfl ?_ | (refine Qc rfl rfl ?_ ?_ <;> (intro hb; have hc := hb; try simp only [go_sem] at hc)) | refine q8 rfl ?_ | ((with_reducible apply And.intro); focus omega) | (refine q7 hK ?_; clear hK; simp only [go_sem, *]) | simp only [q6, z8, go_sem, *])
  all_goals try contradiction
  refine O0 rfl (n - start) (fun q (i : Nat) (acc : List (List Int)) => (start + q ≤ i ∧ i ≤ start + q) ∧ acc ++ zOm n M (n - i) = R) 45 (fun q i acc => [(8, iV i), (7, .own 0 1 0 acc.length), (1, iV n), (2, iV M)]) (fun q i acc => [.box (acc.map T1)]) [none] [] (start) ([]) (by exact ⟨⟨Nat.le_refl _, Nat.le_refl _⟩, hR0⟩) ?_; intro q i acc hq hP
  clear hR0
  obtain ⟨⟨hik1, hik2⟩, hP⟩ := hP
  have hiM : i ≤ n := by omega
  have hw : IntKind.i64.wrap ((i : Int) + (M : Int)) = (i : Int) + M := wrap_i64 (by omega) (by omega)
  have hw3 : IntKind.i64.wrap ((i : Int) + 1) = ((i + 1 : Nat) : Int) := by rw [wrap_i64 (by omega) (by omega)]; omega
  by_cases hi : i + M ≤ n
  ·have hi3 : (i : Int) + M ≤ n := by omega
   rw [hst i (by omega)] at hP
   have ih := IH i (by omega)
   have hWm : ∀ l, l ∈ zOm n m (n - (i + 1)) → l.length ≤ 24 := fun l hm => by have := (zO1 n _ m l (by omega) hm).1; omega
   generalize zOm n m (n - (i + 1)) = W at *
   generalize hT : zOm n M (n - (i + 1)) = T at *
   clear IH hst hno
   have hP0 : acc ++ ((W.drop 0).map (fun l => (i : Int) :: l) ++ T) = R := hP
   have hql := congrArg List.length hP
   simp only [List.length_append, List.length_map] at hql
   have hWl : W.length ≤ 16777216 := by omega
   clear hql
   repeat' (first | (refine Qr rfl ?_; try intro _ hK; try simp only [go_sem, *]) | refine Qh rfl ?_ | (refine Qc rfl rfl ?_ ?_ <;> (intro hb; have hc := hb; try simp only [go_sem] at hc)) | refine q8 rfl ?_ | (refine y5 (ih) ?_; simp only [go_sem, *]) | ((with_reducible apply And.intro); focus omega) | (refine q7 hK ?_; clear hK; simp only [go_sem, *]) | simp only [q6, z8, go_sem, *])
   all_goals try contradiction
   clear hP
   refine c7 rfl (W.length) (fun k (ac : List (List Int)) => ac ++ ((W.drop k).map (fun l => (i : Int) :: l) ++ T) = R) 45 (fun k ac => [(10, iV k), (9, .list (W.map T1)), (8, iV i), (7, .own 0 1 0 ac.length), (1, iV n), (2, iV M)]) (fun k ac => [.box (ac.map T1)]) [some 0] [] (acc) (by exact hP0) ?_; intro k ac hk hQ
   clear hP0
   by_cases hk : k < W.length
   ·have hk3 : (k : Int) < W.length := by omega
    rw [j3 hk, List.map_cons] at hQ
    have hql := congrArg List.length hQ
    simp only [List.length_append, List.length_map, List.length_cons] at hql
    have hWk := hWm _ (o7 hk)
    clear hWm
    generalize hw0 : W.getD k default = w at *
    have ht : ∀ a : AV, List.take (1 + w.length) ([a] ++ List.map iV w) = a :: List.map iV w := fun a => List.take_of_length_le (by simp; omega)
    have ht2 : ∀ a : AV, List.take (1 + w.length) (a :: List.map iV w) = a :: List.map iV w := ht
    have ht3 : 1 + w.length ≤ w.length + 1 := by omega
    repeat' (first | (refine Qr rfl ?_; try intro _ hK; try simp only [go_sem, *]) | refine Qh rfl ?_ | (refine Qc rfl rfl ?_ ?_ <;> (intro hb; have hc := hb; try simp only [go_sem] at hc)) | refine q8 rfl ?_ | (with_reducible (show (∀ _ : AV, _ → _) ∧ _); refine And.intro ?_ ?_; (focus (intro y hy; first | (obtain ⟨z, _, rfl⟩ := List.mem_map.1 (hy); simp [go_sem]; done) | (obtain ⟨z, _, rfl⟩ := List.mem_map.1 (List.mem_of_mem_take hy); simp [go_sem]; done) | (obtain ⟨z, _, rfl⟩ := List.mem_map.1 (List.mem_of_mem_drop hy); simp [go_sem]; done) | (obtain ⟨z, _, rfl⟩ := List.mem_map.1 (List.mem_of_mem_drop (List.mem_of_mem_take hy)); simp [go_sem]; done)))) | ((with_reducible apply And.intro); focus omega) | (refine q7 hK ?_; clear hK; simp only [go_sem, *]) | simp only [q6, z8, go_sem, *])
    all_goals try contradiction
    exact p5 (i' := k + 1) [some 4] [2] (ac ++ [(i : Int) :: w]) (by rw [← hQ]; simp)
   ·have hk3 : ¬ (k : Int) < W.length := by omega
    rw [c0 (by omega), List.map_nil, List.nil_append] at hQ
    repeat' (first | (refine Qr rfl ?_; try intro _ hK; try simp only [go_sem, *]) | refine Qh rfl ?_ | (refine Qc rfl rfl ?_ ?_ <;> (intro hb; have hc := hb; try simp only [go_sem] at hc)) | refine q8 rfl ?_ | ((with_reducible apply And.intro); focus omega) | (refine q7 hK ?_; clear hK; simp only [go_sem, *]) | simp only [q6, z8, go_sem, *])
    all_goals try contradiction
    exact i7 (i' := q + 1) [some 0] [] (i + 1) (ac) (by rw [hT]; exact ⟨⟨by omega, by omega⟩, hQ⟩)
  ·have hi3 : ¬ (i : Int) + M ≤ n := by omega
   rw [hno _ (by omega), List.append_nil] at hP
   subst hP
   clear IH hst hno
   repeat' (first | (refine Qr rfl ?_; try intro _ hK; try simp only [go_sem, *]) | refine Qh rfl ?_ | (refine Qc rfl rfl ?_ ?_ <;> (intro hb; have hc := hb; try simp only [go_sem] at hc)) | refine q8 rfl ?_ | ((with_reducible apply And.intro); focus omega) | (refine q7 hK ?_; clear hK; simp only [go_sem, *]) | simp only [q6, z8, go_sem, *])
   all_goals try contradiction
   refine ⟨[.own 0 1 0 acc.length], [], [0], ⟨rfl, trivial⟩, ?_⟩
   simp only [go_sem, *]
   intro x hx
   obtain ⟨y, _, rfl⟩ := List.mem_map.1 hx
   rfl
theorem zPl (n m : Nat) (hn : n ≤ 24) (hm : m ≤ 24) : zNF prog 57 [iV n, iV m] [] (.list ((zOm n m n).map T1)) [] := by
 have s1 : zNF prog 104 [iV 0, iV n, iV m] [] (.list ((zOm n m n).map T1)) [] := zPO n hn m 0 hm (Nat.zero_le _)
 refine q9 func57 rfl (fun E hE => ?_); simp only [go_sem, ntmps57]
 repeat' (first | (refine Qr rfl ?_; try intro _ hK; try simp only [go_sem, *]) | refine Qh rfl ?_ | (refine Qc rfl rfl ?_ ?_ <;> (intro hb; have hc := hb; try simp only [go_sem] at hc)) | refine q8 rfl ?_ | (refine y5 (s1) ?_; simp only [go_sem, *]) | ((with_reducible apply And.intro); focus omega) | (refine q7 hK ?_; clear hK; simp only [go_sem, *]) | simp only [q6, z8, go_sem, *])
 (refine ⟨[_], [], [], ⟨rfl, trivial⟩, ?_⟩; simp only [go_sem, *])
end Go.Abs

namespace Go.Abs
open Go Go.Proofs Tryz
attribute [local irreducible] y4 Hold y9
def wTo (l : List Str) (c : List Int) (i : Nat) : List Str := ((List.range i).filter fun (j : Nat) => !(c.any (· == (j : Int)))).map fun j => l.getD j default
def WOK (l : List Str) (c : List Int) (i : Nat) (acc : List Str) : Prop := acc = wTo l c i
def zPq (c : List Int) (i : Nat) (k : Nat) (b : Bool) : Prop := b = (c.take k).any (· == (i : Int))
def zQH (q : List Str) (t : Nat) : Prop := ∀ j, j < t → ¬ o5 (q.getD (j + 1) []) (q.getD j []) < 0
end Go.Abs

namespace Go.Abs
open Go Go.Proofs Tryz
attribute [local irreducible] y4 Hold y9
def zOq (l : List Str) (own : Str) (T : List Int) (k i : Nat) (m o : Bool) : Prop := m = (T.take i).any (· == (k : Int)) ∧ o = (T.take i).any fun z => !(decide (zNG (l.getD z.toNat default) = own))
theorem zPd {l : List Str} {own : Str} {T : List Int} {k i j : Nat} {m o : Bool} (hi : i < T.length) (hj : T.getD i default = (j : Int)) (h : zOq l own T k i m o) : zOq l own T k (i + 1) (m || ((j : Int) == (k : Int))) (o || !(decide (zNG (l.getD j default) = own))) := by
 obtain ⟨h1, h2⟩ := h
 unfold zOq
 rw [E8 hi, List.any_append, List.any_append, ← h1, ← h2, hj]
 constructor
 ·simp
 ·simp
theorem zPb {l : List Str} {t : Str} {k : Nat} (hk : k < l.length) : (j9 t l 0).any (· == (k : Int)) = u0 t (zNG (l.getD k default)) := by
 rw [Bool.eq_iff_iff, List.any_eq_true]
 constructor
 ·rintro ⟨z, hz, e⟩
  obtain ⟨i, rfl, _, h⟩ := mem_std.1 hz
  have : (i : Int) = k := beq_iff_eq.1 e
  have : i = k := by omega
  subst this; exact h
 ·intro h
  exact ⟨(k : Int), mem_std.2 ⟨k, rfl, hk, h⟩, by simp⟩
theorem zPc {l : List Str} {t own : Str} : ((j9 t l 0).any fun z => !(decide (zNG (l.getD z.toNat default) = own))) = p8 t l own := by
 unfold p8
 rw [Bool.eq_iff_iff, List.any_eq_true, List.any_eq_true]
 constructor
 ·rintro ⟨z, hz, e⟩
  obtain ⟨i, rfl, hi, h⟩ := mem_std.1 hz
  refine ⟨l.getD i default, o7 hi, ?_⟩
  rw [Int.toNat_natCast] at e
  rw [e, h]; rfl
 ·rintro ⟨x, hx, e⟩
  rw [Bool.and_eq_true] at e
  obtain ⟨i, hi, rfl⟩ := List.getElem_of_mem hx
  have hg : l.getD i default = l[i] := by simp [List.getD, hi]
  refine ⟨(i : Int), mem_std.2 ⟨i, rfl, hi, by rw [hg]; exact e.2⟩, ?_⟩
  rw [Int.toNat_natCast, hg]; exact e.1
theorem zPM (s : Str) (l : List Str) (k : Nat) (q : Z4 s l = 0) (hv : ∀ x, x ∈ l → ValidN x) (hk : k < l.length) (h6 : l.length ≤ 1000) :
  zNF prog 68 [sV s, y7 l, iV k] [] (.tup [bV (!u0 (w4 s) (zNG (l.getD k default)) || p8 (w4 s) l (zNG (l.getD k default))), bV true]) [] := by
 have s1 := zMu s l q
 have s2 := zMr (hv _ (o7 hk))
 have s3 := fun i (hi : i < l.length) => zMr (hv _ (o7 hi))
 have hTl : (zNv s l).length ≤ l.length := zM1 _ 0 rfl
 have hmem := fun z (hz : z ∈ zNv s l) => mem_std.1 hz
 have hm : (zNv s l).any (· == (k : Int)) = u0 (w4 s) (zNG (l.getD k default)) := zPb hk
 have ho : ((zNv s l).any fun z => !(decide (zNG (l.getD z.toNat default) = zNG (l.getD k default)))) = p8 (w4 s) l (zNG (l.getD k default)) := zPc
 rw [← hm, ← ho]
 clear hm ho hv q
 have hkk : (k : Int) < (l.length : Int) := by omega
 generalize hoe : zNG (l.getD k default) = own at *
 obtain ⟨R, hR⟩ : ∃ R, (!(zNv s l).any (· == (k : Int)) || ((zNv s l).any fun z => !(decide (zNG (l.getD z.toNat default) = own)))) = R := ⟨_, rfl⟩
 rw [hR]
 generalize zNv s l = T at *
 have hTg : ¬ (T.length : Int) > (l.length : Int) := by omega
 have h0 : zOq l own T k 0 false false := ⟨rfl, rfl⟩
 refine q9 func68 rfl (fun E hE => ?_); simp only [go_sem, ntmps68]
 repeat' (first | (refine Qr rfl ?_; try intro _ hK; try simp only [go_sem, *]) | (refine Qi rfl rfl rfl rfl ?_ ?_ <;> (intro hb; (try intro _ hK); have hc := hb; try simp only [go_sem] at hc; simp only [go_sem, *])) | refine Qh rfl ?_ | (refine Qc rfl rfl ?_ ?_ <;> (intro hb; have hc := hb; try simp only [go_sem] at hc)) | refine q8 rfl ?_ | (refine j1 (s1) ?_; simp only [go_sem, *]) | (refine x5 (s2) ?_ ?_; (focus (simp only [go_sem, *]; done)); simp only [go_sem, *]) | ((with_reducible apply And.intro); focus omega) | (refine q7 hK ?_; clear hK; simp only [go_sem, *]) | simp only [q6, z8, go_sem, *])
 all_goals first | contradiction | omega | skip
 refine O0 rfl (T.length) (fun i (m : Bool) (o : Bool) => zOq l own T k i m o) 95 (fun i m o => [(14, iV i), (12, bV m), (13, bV o), (11, iV 0), (10, sV own), (8, .own 0 1 0 T.length), (1, y7 l), (2, iV k)]) (fun i m o => [.row 1 (T.map iV)]) [some 0] [] (false) (false) (by exact h0) ?_; intro i m o hi hP
 clear h0 s1 s2
 by_cases hi2 : i < T.length
 ·have hii : (i : Int) < (T.length : Int) := by omega
  have hwi : IntKind.i64.wrap ((i : Int) + 1) = ((i + 1 : Nat) : Int) := t6 (by omega)
  obtain ⟨j, hz, hj, -⟩ := hmem _ (o7 hi2)
  have hP2 := zPd hi2 hz hP
  have t3 := s3 j hj
  have hj0 : ¬ (j : Int) < 0 := by omega
  have hj1 : ¬ (j : Int) ≥ (l.length : Int) := by omega
  clear hP hmem s3 hR
  generalize hze : T.getD i default = z at *
  subst hz
  generalize hye : l.getD j default = y at *
  generalize zNG y = ky at *
  generalize hjb : ((j : Int) == (k : Int)) = jb at *
  by_cases q2 : ky = own
  ·have qb : (ky == own) = true := by simpa using q2
   rw [decide_eq_true q2] at hP2
   clear q2
   cases m <;> cases o
   ·have hP2 : zOq l own T k (i + 1) jb false := hP2
    repeat' (first | (refine Qr rfl ?_; try intro _ hK; try simp only [go_sem, *]) | (refine Qi rfl rfl rfl rfl ?_ ?_ <;> (intro hb; (try intro _ hK); have hc := hb; try simp only [go_sem] at hc; simp only [go_sem, *])) | refine Qh rfl ?_ | (refine Qc rfl rfl ?_ ?_ <;> (intro hb; have hc := hb; try simp only [go_sem] at hc)) | refine q8 rfl ?_ | (refine x5 (t3) ?_ ?_; (focus (simp only [go_sem, *]; done)); simp only [go_sem, *]) | ((with_reducible apply And.intro); focus omega) | (refine q7 hK ?_; clear hK; simp only [go_sem, *]) | simp only [q6, z8, go_sem, *])
    all_goals first | contradiction | omega | skip
    exact i7 (i' := i + 1) [some 0] [] (jb) (false) (by exact hP2)
   ·have hP2 : zOq l own T k (i + 1) jb true := hP2
    repeat' (first | (refine Qr rfl ?_; try intro _ hK; try simp only [go_sem, *]) | (refine Qi rfl rfl rfl rfl ?_ ?_ <;> (intro hb; (try intro _ hK); have hc := hb; try simp only [go_sem] at hc; simp only [go_sem, *])) | refine Qh rfl ?_ | (refine Qc rfl rfl ?_ ?_ <;> (intro hb; have hc := hb; try simp only [go_sem] at hc)) | refine q8 rfl ?_ | (refine x5 (t3) ?_ ?_; (focus (simp only [go_sem, *]; done)); simp only [go_sem, *]) | ((with_reducible apply And.intro); focus omega) | (refine q7 hK ?_; clear hK; simp only [go_sem, *]) | simp only [q6, z8, go_sem, *])
    all_goals first | contradiction | omega | skip
    exact i7 (i' := i + 1) [some 0] [] (jb) (true) (by exact hP2)
   ·have hP2 : zOq l own T k (i + 1) true false := hP2
    repeat' (first | (refine Qr rfl ?_; try intro _ hK; try simp only [go_sem, *]) | (refine Qi rfl rfl rfl rfl ?_ ?_ <;> (intro hb; (try intro _ hK); have hc := hb; try simp only [go_sem] at hc; simp only [go_sem, *])) | refine Qh rfl ?_ | (refine Qc rfl rfl ?_ ?_ <;> (intro hb; have hc := hb; try simp only [go_sem] at hc)) | refine q8 rfl ?_ | (refine x5 (t3) ?_ ?_; (focus (simp only [go_sem, *]; done)); simp only [go_sem, *]) | ((with_reducible apply And.intro); focus omega) | (refine q7 hK ?_; clear hK; simp only [go_sem, *]) | simp only [q6, z8, go_sem, *])
    all_goals first | contradiction | omega | skip
    exact i7 (i' := i + 1) [some 0] [] (true) (false) (by exact hP2)
   ·have hP2 : zOq l own T k (i + 1) true true := hP2
    repeat' (first | (refine Qr rfl ?_; try intro _ hK; try simp only [go_sem, *]) | (refine Qi rfl rfl rfl rfl ?_ ?_ <;> (intro hb; (try intro _ hK); have hc := hb; try simp only [go_sem] at hc; simp only [go_sem, *])) | refine Qh rfl ?_ | (refine Qc rfl rfl ?_ ?_ <;> (intro hb; have hc := hb; try simp only [go_sem] at hc)) | refine q8 rfl ?_ | (refine x5 (t3) ?_ ?_; (focus (simp only [go_sem, *]; done)); simp only [go_sem, *]) | ((with_reducible apply And.intro); focus omega) | (refine q7 hK ?_; clear hK; simp only [go_sem, *]) | simp only [q6, z8, go_sem, *])
    all_goals first | contradiction | omega | skip
    exact i7 (i' := i + 1) [some 0] [] (true) (true) (by exact hP2)
  ·have qb : (ky == own) = false := by simpa using q2
   rw [decide_eq_false q2] at hP2
   clear q2
   cases m <;> cases o
   ·have hP2 : zOq l own T k (i + 1) jb true := hP2
    repeat' (first | (refine Qr rfl ?_; try intro _ hK; try simp only [go_sem, *]) | (refine Qi rfl rfl rfl rfl ?_ ?_ <;> (intro hb; (try intro _ hK); have hc := hb; try simp only [go_sem] at hc; simp only [go_sem, *])) | refine Qh rfl ?_ | (refine Qc rfl rfl ?_ ?_ <;> (intro hb; have hc := hb; try simp only [go_sem] at hc)) | refine q8 rfl ?_ | (refine x5 (t3) ?_ ?_; (focus (simp only [go_sem, *]; done)); simp only [go_sem, *]) | ((with_reducible apply And.intro); focus omega) | (refine q7 hK ?_; clear hK; simp only [go_sem, *]) | simp only [q6, z8, go_sem, *])
    all_goals first | contradiction | omega | skip
    exact i7 (i' := i + 1) [some 0] [] (jb) (true) (by exact hP2)
   ·have hP2 : zOq l own T k (i + 1) jb true := hP2
    repeat' (first | (refine Qr rfl ?_; try intro _ hK; try simp only [go_sem, *]) | (refine Qi rfl rfl rfl rfl ?_ ?_ <;> (intro hb; (try intro _ hK); have hc := hb; try simp only [go_sem] at hc; simp only [go_sem, *])) | refine Qh rfl ?_ | (refine Qc rfl rfl ?_ ?_ <;> (intro hb; have hc := hb; try simp only [go_sem] at hc)) | refine q8 rfl ?_ | (refine x5 (t3) ?_ ?_; (focus (simp only [go_sem, *]; done)); simp only [go_sem, *]) | ((with_reducible apply And.intro); focus omega) | (refine q7 hK ?_; clear hK; simp only [go_sem, *]) | simp only [q6, z8, go_sem, *])
    all_goals first | contradiction | omega | skip
    exact i7 (i' := i + 1) [some 0] [] (jb) (true) (by exact hP2)
   ·have hP2 : zOq l own T k (i + 1) true true := hP2
    repeat' (first | (refine Qr rfl ?_; try intro _ hK; try simp only [go_sem, *]) | (refine Qi rfl rfl rfl rfl ?_ ?_ <;> (intro hb; (try intro _ hK); have hc := hb; try simp only [go_sem] at hc; simp only [go_sem, *])) | refine Qh rfl ?_ | (refine Qc rfl rfl ?_ ?_ <;> (intro hb; have hc := hb; try simp only [go_sem] at hc)) | refine q8 rfl ?_ | (refine x5 (t3) ?_ ?_; (focus (simp only [go_sem, *]; done)); simp only [go_sem, *]) | ((with_reducible apply And.intro); focus omega) | (refine q7 hK ?_; clear hK; simp only [go_sem, *]) | simp only [q6, z8, go_sem, *])
    all_goals first | contradiction | omega | skip
    exact i7 (i' := i + 1) [some 0] [] (true) (true) (by exact hP2)
   ·have hP2 : zOq l own T k (i + 1) true true := hP2
    repeat' (first | (refine Qr rfl ?_; try intro _ hK; try simp only [go_sem, *]) | (refine Qi rfl rfl rfl rfl ?_ ?_ <;> (intro hb; (try intro _ hK); have hc := hb; try simp only [go_sem] at hc; simp only [go_sem, *])) | refine Qh rfl ?_ | (refine Qc rfl rfl ?_ ?_ <;> (intro hb; have hc := hb; try simp only [go_sem] at hc)) | refine q8 rfl ?_ | (refine x5 (t3) ?_ ?_; (focus (simp only [go_sem, *]; done)); simp only [go_sem, *]) | ((with_reducible apply And.intro); focus omega) | (refine q7 hK ?_; clear hK; simp only [go_sem, *]) | simp only [q6, z8, go_sem, *])
    all_goals first | contradiction | omega | skip
    exact i7 (i' := i + 1) [some 0] [] (true) (true) (by exact hP2)
 ·have hii : ¬ (i : Int) < (T.length : Int) := by omega
  obtain ⟨h1, h2⟩ := hP
  rw [List.take_of_length_le (by omega)] at h1 h2
  rw [← h1, ← h2] at hR
  clear h1 h2 hmem s3
  subst hR
  cases m <;> cases o
  all_goals
   repeat' (first | (refine Qr rfl ?_; try intro _ hK; try simp only [go_sem, *]) | (refine Qi rfl rfl rfl rfl ?_ ?_ <;> (intro hb; (try intro _ hK); have hc := hb; try simp only [go_sem] at hc; simp only [go_sem, *])) | refine Qh rfl ?_ | (refine Qc rfl rfl ?_ ?_ <;> (intro hb; have hc := hb; try simp only [go_sem] at hc)) | refine q8 rfl ?_ | ((with_reducible apply And.intro); focus omega) | (refine q7 hK ?_; clear hK; simp only [go_sem, *]) | simp only [q6, z8, go_sem, *])
   all_goals first | contradiction | omega | skip
   (refine ⟨[_, _], [], [], ⟨rfl, rfl, trivial⟩, ?_⟩; simp only [go_sem, *])
end Go.Abs

namespace Go.Abs
open Go
def zQD (s : Str) : List Str → Nat
 | [] => 0
 | x :: r => if u5 x s = true then zQD s r + 1 else 0
def zQE (s : Str) (l : List Str) : List Str := l.take (zQD s l) ++ s :: l.drop (zQD s l)
theorem zO7 (s : Str) : ∀ l : List Str, zQD s l ≤ l.length
 | [] => Nat.le_refl _
 | x :: r => by
  rw [zQD]
  split
  ·have := zO7 s r; simp; omega
  ·omega
theorem zPg {s : Str} {l : List Str} {i : Nat} (h : i < l.length) : zQD s (l.drop i) = if u5 (l.getD i default) s = true then zQD s (l.drop (i + 1)) + 1 else 0 := by
 rw [List.drop_eq_getElem_cons h, zQD]
 have e : l.getD i default = l[i] := by simp [List.getD, h]
 rw [e]
theorem zPf {s : Str} {l : List Str} {i : Nat} (h : l.length ≤ i) : zQD s (l.drop i) = 0 := by
 rw [List.drop_eq_nil_of_le h]; rfl
theorem mem_insS {s x : Str} {l : List Str} : x ∈ zQE s l ↔ x = s ∨ x ∈ l := by
 unfold zQE
 rw [List.mem_append, List.mem_cons]
 constructor
 ·rintro (h | h | h)
  ·exact .inr (List.mem_of_mem_take h)
  ·exact .inl h
  ·exact .inr (List.mem_of_mem_drop h)
 ·rintro (h | h)
  ·exact .inr (.inl h)
  ·rw [← List.take_append_drop (zQD s l) l, List.mem_append] at h
   rcases h with h | h
   ·exact .inl h
   ·exact .inr (.inr h)
theorem zO5 (s : Str) (l : List Str) : (zQE s l).length = l.length + 1 := by
 unfold zQE
 have := zO7 s l
 simp only [List.length_append, List.length_cons, List.length_take, List.length_drop]; omega
abbrev zOu (l : List Str) : Prop := l.Pairwise fun a b => ¬ u5 b a = true
theorem zPI (s : Str) : ∀ {l : List Str}, zOu l → zOu (zQE s l)
 | [], _ => by unfold zQE; simp [zQD]
 | x :: r, h => by
  obtain ⟨h1, h2⟩ := List.pairwise_cons.1 h
  unfold zQE
  rw [zQD]
  by_cases q : u5 x s = true
  ·rw [if_pos q, List.take_succ_cons, List.drop_succ_cons, List.cons_append]
   have ih : zOu (r.take (zQD s r) ++ s :: r.drop (zQD s r)) := zPI s h2
   refine List.pairwise_cons.2 ⟨fun y hy => ?_, ih⟩
   have hy : y ∈ zQE s r := hy
   rcases mem_insS.1 hy with rfl | hy
   ·rw [zAf q]; simp
   ·exact h1 y hy
  ·rw [if_neg q, List.take_zero, List.drop_zero, List.nil_append]
   refine List.pairwise_cons.2 ⟨fun y hy => ?_, h⟩
   rcases List.mem_cons.1 hy with rfl | hy
   ·exact q
   ·exact zDD (h1 y hy) q
def zQF (out : List Str) (l : List Str) : List Str := l.foldl (fun o s => zQE s o) out
theorem zPH : ∀ {l out : List Str}, zOu out → zOu (zQF out l)
 | [], _, h => h
 | s :: l, _, h => zPH (l := l) (zPI s h)
theorem zO6 {x : Str} : ∀ {l out : List Str}, x ∈ zQF out l ↔ x ∈ out ∨ x ∈ l
 | [], out => by simp [zQF]
 | s :: l, out => by
  have := zO6 (x := x) (l := l) (out := zQE s out)
  unfold zQF at this ⊢
  rw [List.foldl_cons, this, mem_insS, List.mem_cons]
  constructor
  ·rintro ((h | h) | h)
   ·exact .inr (.inl h)
   ·exact .inl h
   ·exact .inr (.inr h)
  ·rintro (h | h | h)
   ·exact .inl (.inr h)
   ·exact .inl (.inl h)
   ·exact .inr h
theorem zPG : ∀ (l out : List Str), (zQF out l).length = out.length + l.length
 | [], out => rfl
 | s :: l, out => by
  have := zPG l (zQE s out)
  unfold zQF at this ⊢
  rw [List.foldl_cons, this, zO5, List.length_cons]; omega
def zOt (key : Str) (c : List Int) : Str := key.take 1 ++ c.map fun q => key.getD (q.toNat + 1) 0
theorem zPD (w : Str) : ∀ (m r : Nat), r ≤ w.length → (zOm w.length m r).map (fun c => c.map fun q => w.getD q.toNat 0) = j5 m (w.drop (w.length - r))
 | 0, r, _ => by rw [zO2, zMG]; rfl
 | m + 1, 0, _ => by
  rw [zME (by simp)]; first | done | rfl
 | m + 1, r + 1, h => by
  have hi : w.length - (r + 1) < w.length := by omega
  have e : w.length - (r + 1) + 1 = w.length - r := by omega
  rw [zOm, List.map_append, List.map_map, zMF hi, e, ← zPD w m r (by omega), ← zPD w (m + 1) r (by omega), List.map_map]
  congr 1
def zO3 (key : Str) (m : Nat) : List Str := (zOm (key.length - 1) (m - 1) (key.length - 1)).map (zOt key)
theorem zPQ (key : Str) (m : Nat) : zO3 key m = (j5 (m - 1) (key.drop 1)).map (key.take 1 ++ ·) := by
 have h := zPD (key.drop 1) (m - 1) (key.drop 1).length (Nat.le_refl _)
 rw [Nat.sub_self, List.drop_zero, List.length_drop] at h
 rw [← h, List.map_map]
 unfold zO3
 apply List.map_congr_left
 intro c _
 unfold zOt
 simp only [Function.comp]
 congr 1
 apply List.map_congr_left
 intro q _
 simp only [List.getD, List.getElem?_drop]
 rw [Nat.add_comm]
def zOn (key : Str) (m : Nat) : List Str := zQF [] (zO3 key m)
def zOs (l : List Str) (own : Str) (x : Str) : Option Str := if p8 x l own = true then none else some x
theorem zPY {l : List Str} {own : Str} {m : Nat} (hm : 1 ≤ m) (hl : m < own.length) : o6 (zOs l own) (zOn own m) = W8 l own m := by
 have hmem : ∀ x, x ∈ zOn own m ∧ p8 x l own = false ↔ M2 l own m x := fun x => by
  rw [← zAD hm hl, List.mem_filter, Bool.not_eq_true']
  unfold zOn
  rw [zO6, zPQ]
  simp
 have hord : zOu (zOn own m) := zPH .nil
 cases h : o6 (zOs l own) (zOn own m) with
 | none =>
  cases hb : W8 l own m with
  | none => rfl
  | some y =>
   have h1 := (zD8 hm hb).1
   obtain ⟨h2, h3⟩ := (hmem y).2 h1
   have := zBT h y h2
   unfold zOs at this
   rw [h3, if_neg (by decide)] at this; cases this
 | some x =>
  obtain ⟨pre, z, post, e, h1, h2⟩ := zBU h
  have hz : p8 z l own = false ∧ z = x := by
   unfold zOs at h1
   cases q : p8 z l own with
   | true => rw [q, if_pos rfl] at h1; cases h1
   | false => rw [q, if_neg (by decide)] at h1; exact ⟨rfl, Option.some.inj h1⟩
  obtain ⟨hz1, rfl⟩ := hz
  have hzin : z ∈ zOn own m := by rw [e]; simp
  have hleast : ∀ y, M2 l own m y → ¬ zNI y z < 0 := fun y hy => by
   obtain ⟨g1, g2⟩ := (hmem y).2 hy
   rw [cmpS_neg]
   rw [e] at g1 hord
   rcases List.mem_append.1 g1 with g | g
   ·have := h2 y g
    unfold zOs at this
    rw [g2, if_neg (by decide)] at this; cases this
   ·rcases List.mem_cons.1 g with rfl | g
    ·rw [zAh]; simp
    ·exact (List.pairwise_cons.1 (List.pairwise_append.1 hord).2.1).1 y g
  cases hb : W8 l own m with
  | none => exact absurd ((hmem z).1 ⟨hzin, hz1⟩) (zA5 hm hb z)
  | some y =>
   obtain ⟨g1, g2⟩ := zD8 hm hb
   have a := hleast y g1
   have b := g2 z ((hmem z).1 ⟨hzin, hz1⟩)
   rw [cmpS_neg] at a b
   have e := N8 (a := y) (b := z) (by simpa using a) (by simpa using b)
   rw [e]
theorem zPZ {l : List Str} {own : Str} (h12 : own.length ≤ 12) (h1 : 1 ≤ own.length) : o6 (W8 l own) (List.range' 1 (own.length - 1)) = zNN l own 12 true := by
 rw [← zMn]
 have e : ([1, 2, 3, 4, 5, 6, 7, 8, 9, 10, 11, 12] : List Nat) = List.range' 1 12 := rfl
 rw [e]
 have key : ∀ (n : Nat) (L : List Nat), (∀ x, x ∈ L → own.length ≤ x) → o6 (W8 l own) (List.range' 1 n ++ L) = o6 (W8 l own) (List.range' 1 n) := by
  intro n L hL
  have hn : o6 (W8 l own) L = none := by
   induction L with
   | nil => rfl
   | cons x r ih =>
    rw [o6]
    have : W8 l own x = none := by unfold W8; rw [if_pos (hL x (by simp))]
    rw [this]
    exact ih (fun y hy => hL y (by simp [hy]))
  generalize List.range' 1 n = P
  induction P with
  | nil => exact hn
  | cons x r ih => rw [List.cons_append, o6, o6, ih]
 have e2 : List.range' 1 12 = List.range' 1 (own.length - 1) ++ List.range' own.length (13 - own.length) := by
  have := List.range'_append_1 (s := 1) (m := own.length - 1) (n := 13 - own.length)
  rw [show 1 + (own.length - 1) = own.length by omega, show own.length - 1 + (13 - own.length) = 12 by omega] at this
  exact this.symm
 rw [e2, key _ _ (fun x hx => (List.mem_range'_1.1 hx).1)]
end Go.Abs

namespace Go.Abs
open Go Go.Proofs Tryz
attribute [local irreducible] y4 Hold y9
def zOv (key : Str) (c : List Int) (k : Nat) (s : Str) : Prop := s = key.take 1 ++ (c.take k).map fun q => key.getD (q.toNat + 1) 0
theorem zPm (key : Str) (m : Nat) (h1 : 1 ≤ key.length) (h12 : key.length ≤ 12) (hm : 1 ≤ m) (hm2 : m ≤ 12) :
  zNF prog 67 [sV key, iV m] [] (.own 0 1 0 (zOn key m).length) [.row 1 ((zOn key m).map sV)] := by
 have s1 := zPl (key.length - 1) (m - 1) (by omega) (by omega)
 have hw1 : IntKind.i64.wrap ((key.length : Int) - 1) = ((key.length - 1 : Nat) : Int) := by rw [wrap_i64 (by omega) (by omega)]; omega
 have hw2 : IntKind.i64.wrap ((m : Int) - 1) = ((m - 1 : Nat) : Int) := by rw [wrap_i64 (by omega) (by omega)]; omega
 have hCm := fun c (hc : c ∈ zOm (key.length - 1) (m - 1) (key.length - 1)) => zO1 _ _ _ c (Nat.le_refl _) hc
 have hCl : (zOm (key.length - 1) (m - 1) (key.length - 1)).length ≤ 16777216 := zPC (by omega)
 have h0 : zQF [] (((zOm (key.length - 1) (m - 1) (key.length - 1)).drop 0).map (zOt key)) = zOn key m := rfl
 generalize zOn key m = T at *
 generalize zOm (key.length - 1) (m - 1) (key.length - 1) = C at *
 refine q9 func67 rfl (fun E hE => ?_); simp only [go_sem, ntmps67]
 repeat' (first | (refine Qr rfl ?_; try intro _ hK; try simp only [go_sem, *]) | (refine Qi rfl rfl rfl rfl ?_ ?_ <;> (intro hb; (try intro _ hK); have hc := hb; try simp only [go_sem] at hc; simp only [go_sem, *])) | refine Qh rfl ?_ | refine Qd rfl (by kernel_rfl) ?_ | (refine Qc rfl rfl ?_ ?_ <;> (intro hb; have hc := hb; try simp only [go_sem] at hc)) | refine q8 rfl ?_ | (refine Qb ?_ ?_; focus kernel_rfl) | (refine x5 (s1) ?_ ?_; (focus (simp only [go_sem, *]; done)); simp only [go_sem, *]) | ((with_reducible apply And.intro); focus omega) | (refine q7 hK ?_; clear hK; simp only [go_sem, *]) | simp only [q6, z8, go_sem, *])
 all_goals first | contradiction | omega | skip
 refine c7 rfl (C.length) (fun i (o : List Str) => zQF o ((C.drop i).map (zOt key)) = T ∧ o.length ≤ i) 81 (fun i o => [(7, iV i), (6, .list (C.map T1)), (5, .own 0 1 0 o.length), (0, sV key), (1, iV m)]) (fun i o => [.row 1 (o.map sV)]) [none] [] ([]) (by exact ⟨h0, by simp⟩) ?_; intro i o hi hP
 clear h0 s1
 obtain ⟨hP, hol⟩ := hP
 by_cases hi2 : i < C.length
 ·have hii : (i : Int) < (C.length : Int) := by omega
  have hwi : IntKind.i64.wrap ((i : Int) + 1) = ((i + 1 : Nat) : Int) := t6 (by omega)
  obtain ⟨hcl, hcq⟩ := hCm _ (o7 hi2)
  rw [j3 hi2, List.map_cons] at hP
  have hP : zQF (zQE (zOt key (C.getD i default)) o) ((C.drop (i + 1)).map (zOt key)) = T := hP
  generalize hce : C.getD i default = c at *
  have hcl2 : c.length ≤ 12 := by omega
  clear hCm hcl
  repeat' (first | (refine Qr rfl ?_; try intro _ hK; try simp only [go_sem, *]) | (refine Qi rfl rfl rfl rfl ?_ ?_ <;> (intro hb; (try intro _ hK); have hc := hb; try simp only [go_sem] at hc; simp only [go_sem, *])) | refine Qh rfl ?_ | refine Qd rfl (by kernel_rfl) ?_ | (refine Qc rfl rfl ?_ ?_ <;> (intro hb; have hc := hb; try simp only [go_sem] at hc)) | refine q8 rfl ?_ | (refine Qb ?_ ?_; focus kernel_rfl) | ((with_reducible apply And.intro); focus omega) | (refine q7 hK ?_; clear hK; simp only [go_sem, *]) | simp only [q6, z8, go_sem, *])
  all_goals first | contradiction | omega | skip
  refine c7 rfl (c.length) (fun k (s : Str) => zOv key c k s) 81 (fun k s => [(9, iV k), (8, sV s), (7, iV i), (6, .list (C.map T1)), (5, .own 0 1 0 o.length), (0, sV key), (1, iV m)]) (fun k s => [.row 1 (o.map sV)]) [some 0] [] (key.take 1) (by unfold zOv; simp) ?_; intro k s hk hQ
  by_cases hk2 : k < c.length
  ·have hki : (k : Int) < (c.length : Int) := by omega
   have hwk : IntKind.i64.wrap ((k : Int) + 1) = ((k + 1 : Nat) : Int) := t6 (by omega)
   obtain ⟨q0, q1⟩ := hcq _ (o7 hk2)
   obtain ⟨j, hj⟩ : ∃ j : Nat, c.getD k default = j := ⟨(c.getD k default).toNat, by omega⟩
   have hQ2 : zOv key c (k + 1) (s ++ [key.getD (j + 1) 0]) := by
    unfold zOv at hQ ⊢
    rw [E8 hk2, List.map_append, hQ, hj]; simp
   rw [hj] at q1
   have hj2 : j + 1 < key.length := by omega
   have hwj1 : IntKind.i64.wrap ((j : Int) + 1) = ((j + 1 : Nat) : Int) := t6 (by omega)
   have hwj2 : IntKind.i64.wrap ((j : Int) + 2) = ((j + 2 : Nat) : Int) := by rw [wrap_i64 (by omega) (by omega)]; omega
   have hj3 : j + 1 ≤ j + 2 := by omega
   have hj4 : j + 2 ≤ key.length := by omega
   have hc1 : List.drop (j + 1) (List.take (j + 2) key) = [key.getD (j + 1) 0] := C4 hj2
   have hsl : s.length ≤ 1000 := by unfold zOv at hQ; rw [hQ]; simp; omega
   clear hQ hcq q0 q1 hP
   generalize hqe : c.getD k default = q at *
   subst hj
   repeat' (first | (refine Qr rfl ?_; try intro _ hK; try simp only [go_sem, *]) | (refine Qi rfl rfl rfl rfl ?_ ?_ <;> (intro hb; (try intro _ hK); have hc := hb; try simp only [go_sem] at hc; simp only [go_sem, *])) | refine Qh rfl ?_ | refine Qd rfl (by kernel_rfl) ?_ | (refine Qc rfl rfl ?_ ?_ <;> (intro hb; have hc := hb; try simp only [go_sem] at hc)) | refine q8 rfl ?_ | (refine Qb ?_ ?_; focus kernel_rfl) | ((with_reducible apply And.intro); focus omega) | (refine q7 hK ?_; clear hK; simp only [go_sem, *]) | simp only [q6, z8, go_sem, *])
   all_goals first | contradiction | omega | skip
   exact p5 (i' := k + 1) [some 0] [] (s ++ [key.getD (j + 1) 0]) (by exact hQ2)
  ·have hki : ¬ (k : Int) < (c.length : Int) := by omega
   unfold zOv at hQ
   rw [List.take_of_length_le (l := c) (i := k) (by omega)] at hQ
   have hsl : s.length ≤ 1000 := by rw [hQ]; simp; omega
   have hQw : s = zOt key c := hQ
   rw [← hQw] at hP
   clear hQw hQ
   have hat0 : 0 + zQD s (o.drop 0) = zQD s o := by simp
   have hpl := zO7 s o
   clear hcq
   repeat' (first | (refine Qr rfl ?_; try intro _ hK; try simp only [go_sem, *]) | (refine Qi rfl rfl rfl rfl ?_ ?_ <;> (intro hb; (try intro _ hK); have hc := hb; try simp only [go_sem] at hc; simp only [go_sem, *])) | refine Qh rfl ?_ | refine Qd rfl (by kernel_rfl) ?_ | (refine Qc rfl rfl ?_ ?_ <;> (intro hb; have hc := hb; try simp only [go_sem] at hc)) | refine q8 rfl ?_ | (refine Qb ?_ ?_; focus kernel_rfl) | ((with_reducible apply And.intro); focus omega) | (refine q7 hK ?_; clear hK; simp only [go_sem, *]) | simp only [q6, z8, go_sem, *])
   all_goals first | contradiction | omega | skip
   refine n0 rfl (o.length) (fun a => a + zQD s (o.drop a) = zQD s o) 81 (fun a => [(10, iV a), (8, sV s), (7, iV i), (6, .list (C.map T1)), (5, .own 0 1 0 o.length), (0, sV key), (1, iV m)]) (fun a => [.row 1 (o.map sV)]) [some 0] [] (by exact hat0) ?_; intro a ha hR
   clear hat0
   have hmin : min a o.length = a := by omega
   have hdl : a + 1 + (o.length - a) = o.length + 1 := by omega
   have htd : List.take (o.length - a) (List.drop a (List.map sV o)) = List.drop a (List.map sV o) := List.take_of_length_le (by simp)
   have hwa : IntKind.i64.wrap ((a : Int) + 1) = ((a + 1 : Nat) : Int) := t6 (by omega)
   by_cases ha2 : a < o.length
   ·have hai : (a : Int) < (o.length : Int) := by omega
    rw [zPg ha2] at hR
    cases hlt : u5 (o.getD a default) s with
    | true =>
     rw [hlt, if_pos rfl] at hR
     have hR2 : a + 1 + zQD s (o.drop (a + 1)) = zQD s o := by omega
     clear hR hP
     repeat' (first | (refine Qr rfl ?_; try intro _ hK; try simp only [go_sem, *]) | (refine Qi rfl rfl rfl rfl ?_ ?_ <;> (intro hb; (try intro _ hK); have hc := hb; try simp only [go_sem] at hc; simp only [go_sem, *])) | refine Qh rfl ?_ | refine Qd rfl (by kernel_rfl) ?_ | (refine Qc rfl rfl ?_ ?_ <;> (intro hb; have hc := hb; try simp only [go_sem] at hc)) | refine q8 rfl ?_ | (refine Qb ?_ ?_; focus kernel_rfl) | ((with_reducible apply And.intro); focus omega) | (refine q7 hK ?_; clear hK; simp only [go_sem, *]) | simp only [q6, z8, go_sem, *])
     all_goals first | contradiction | omega | skip
     exact d7 (i' := a + 1) [some 0] [] (by exact hR2)
    | false =>
     rw [hlt, if_neg (by decide)] at hR
     have hin : zQE s o = o.take a ++ s :: o.drop a := by unfold zQE; rw [← hR, Nat.add_zero]
     have hil := zO5 s o
     rw [hin] at hP hil
     clear hin hR
     repeat' (first | (refine Qr rfl ?_; try intro _ hK; try simp only [go_sem, *]) | (refine Qi rfl rfl rfl rfl ?_ ?_ <;> (intro hb; (try intro _ hK); have hc := hb; try simp only [go_sem] at hc; simp only [go_sem, *])) | refine Qh rfl ?_ | refine Qd rfl (by kernel_rfl) ?_ | (refine Qc rfl rfl ?_ ?_ <;> (intro hb; have hc := hb; try simp only [go_sem] at hc)) | refine q8 rfl ?_ | (with_reducible (show (∀ _ : AV, _ → _) ∧ _); refine And.intro ?_ ?_; (focus (intro y hy; first | (obtain ⟨z, _, rfl⟩ := List.mem_map.1 (hy); simp [go_sem]; done) | (obtain ⟨z, _, rfl⟩ := List.mem_map.1 (List.mem_of_mem_take hy); simp [go_sem]; done) | (obtain ⟨z, _, rfl⟩ := List.mem_map.1 (List.mem_of_mem_drop hy); simp [go_sem]; done) | (obtain ⟨z, _, rfl⟩ := List.mem_map.1 (List.mem_of_mem_drop (List.mem_of_mem_take hy)); simp [go_sem]; done)))) | (refine Qb ?_ ?_; focus kernel_rfl) | ((with_reducible apply And.intro); focus omega) | (refine q7 hK ?_; clear hK; simp only [go_sem, *]) | simp only [q6, z8, go_sem, *])
     all_goals first | contradiction | omega | skip
     exact p5 (i' := i + 1) [some 5] [] (o.take a ++ s :: o.drop a) (by exact ⟨hP, by omega⟩)
   ·have hai : ¬ (a : Int) < (o.length : Int) := by omega
    rw [zPf (by omega)] at hR
    have hin : zQE s o = o.take a ++ s :: o.drop a := by unfold zQE; rw [← hR, Nat.add_zero]
    have hil := zO5 s o
    rw [hin] at hP hil
    clear hin hR
    repeat' (first | (refine Qr rfl ?_; try intro _ hK; try simp only [go_sem, *]) | (refine Qi rfl rfl rfl rfl ?_ ?_ <;> (intro hb; (try intro _ hK); have hc := hb; try simp only [go_sem] at hc; simp only [go_sem, *])) | refine Qh rfl ?_ | refine Qd rfl (by kernel_rfl) ?_ | (refine Qc rfl rfl ?_ ?_ <;> (intro hb; have hc := hb; try simp only [go_sem] at hc)) | refine q8 rfl ?_ | (with_reducible (show (∀ _ : AV, _ → _) ∧ _); refine And.intro ?_ ?_; (focus (intro y hy; first | (obtain ⟨z, _, rfl⟩ := List.mem_map.1 (hy); simp [go_sem]; done) | (obtain ⟨z, _, rfl⟩ := List.mem_map.1 (List.mem_of_mem_take hy); simp [go_sem]; done) | (obtain ⟨z, _, rfl⟩ := List.mem_map.1 (List.mem_of_mem_drop hy); simp [go_sem]; done) | (obtain ⟨z, _, rfl⟩ := List.mem_map.1 (List.mem_of_mem_drop (List.mem_of_mem_take hy)); simp [go_sem]; done)))) | (refine Qb ?_ ?_; focus kernel_rfl) | ((with_reducible apply And.intro); focus omega) | (refine q7 hK ?_; clear hK; simp only [go_sem, *]) | simp only [q6, z8, go_sem, *])
    all_goals first | contradiction | omega | skip
    exact p5 (i' := i + 1) [some 5] [] (o.take a ++ s :: o.drop a) (by exact ⟨hP, by omega⟩)
 ·have hii : ¬ (i : Int) < (C.length : Int) := by omega
  rw [c0 (by omega)] at hP
  have hP : o = T := hP
  subst hP
  clear hCm
  repeat' (first | (refine Qr rfl ?_; try intro _ hK; try simp only [go_sem, *]) | (refine Qi rfl rfl rfl rfl ?_ ?_ <;> (intro hb; (try intro _ hK); have hc := hb; try simp only [go_sem] at hc; simp only [go_sem, *])) | refine Qh rfl ?_ | refine Qd rfl (by kernel_rfl) ?_ | (refine Qc rfl rfl ?_ ?_ <;> (intro hb; have hc := hb; try simp only [go_sem] at hc)) | refine q8 rfl ?_ | (refine Qb ?_ ?_; focus kernel_rfl) | ((with_reducible apply And.intro); focus omega) | (refine q7 hK ?_; clear hK; simp only [go_sem, *]) | simp only [q6, z8, go_sem, *])
  all_goals first | contradiction | omega | skip
  refine ⟨[_], [some 0], [], ⟨rfl, trivial⟩, ?_⟩
  simp only [go_sem, *]
end Go.Abs

namespace Go.Abs
open Go Go.Proofs Tryz
attribute [local irreducible] y4 Hold y9
def zOp (n : Int) : List Int → Nat → Int
 | [], _ => -1
 | x :: r, i => if x = n then i else zOp n r (i + 1)
def zPr (l : List Str) (i : Nat) (S : List Str) : Prop := S = (zMp l).take i
def zPp (S : List Str) (i f : Nat) : Prop := ∀ j, f ≤ j → j ≤ i → S.getD j default = S.getD i default
end Go.Abs

namespace Go.Abs
open Go Go.Proofs Tryz
attribute [local irreducible] y4 Hold y9
theorem zOw (t : Str) : w4 (t ++ [46]) = t := by
 unfold w4
 rw [List.length_append, List.length_singleton, Nat.add_sub_cancel, List.take_left']
 rfl
theorem zPJ {t : Str} (h1 : 1 ≤ t.length) (h2 : t.length ≤ 12) (h3 : t.all y8 = true) : r4 (t ++ [46]) = true := by
 unfold r4
 rw [zOw, zI5 (by simp)]
 have e : (t ++ [46]).getD ((t ++ [46]).length - 1) 0 = 46 := by
  rw [List.length_append, List.length_singleton, Nat.add_sub_cancel]
  simp [List.getD]
 rw [e]
 unfold x7
 simp [h1, h2, h3]
theorem zOy {a b : Str} (h : a.Sublist b) (hb : b.all y8 = true) : a.all y8 = true :=
 List.all_eq_true.2 fun x hx => List.all_eq_true.1 hb x (h.subset hx)
theorem zO0 {t : Str} {l : List Str} (h : 1 ≤ t.length ∧ t.length ≤ 12 ∧ t.all y8 = true) (hl : u9 l = 0) : Z4 (t ++ [46]) l = 0 := by
 unfold Z4
 rw [zPJ h.1 h.2.1 h.2.2, if_pos rfl, hl]
end Go.Abs

namespace Go.Abs
open Go Go.Proofs Tryz
attribute [local irreducible] y4 Hold y9
theorem zPn {own t : Str} (h : t.Sublist own) (hl : t.length < own.length) (h0 : t.getD 0 0 = own.getD 0 0) : u0 t own = true := by
 unfold u0
 rw [Bool.and_eq_true, Bool.and_eq_true, decide_eq_true_eq, beq_iff_eq, E7]
 exact ⟨hl, h0, h⟩
theorem zPS {own x : Str} {m : Nat} (hm : 1 ≤ m) (hl : m < own.length) (hx : x ∈ zOn own m) : x.length = m ∧ x.Sublist own ∧ x.getD 0 0 = own.getD 0 0 := by
 unfold zOn at hx
 rw [zO6, zPQ] at hx
 rcases hx with hx | hx
 ·cases hx
 ·obtain ⟨u, hu, rfl⟩ := List.mem_map.1 hx
  obtain ⟨h1, h2⟩ := mem_partsN.1 hu
  have hs : (own.take 1 ++ u).Sublist own := by
   have := List.Sublist.append (List.Sublist.refl (own.take 1)) h2
   rwa [List.take_append_drop] at this
  refine ⟨?_, hs, ?_⟩
  ·rw [List.length_append, List.length_take, h1]; omega
  ·cases own with
   | nil => simp at hl
   | cons a r => rfl
theorem zQB (nums : List Int) (h : nums.length ≤ 4294967296) : zNF prog 16 [T1 nums] [] (bV true) [] := by
 obtain ⟨d0, s0, hd0⟩ := zKX nums h
 obtain ⟨l0, d1, s1, v0, hl0, hd1⟩ := zLV d0 4 4 hd0 (by omega) (by omega)
 obtain ⟨x, d2, s2, vx, hd2⟩ := zLU d1 4 hd1 (by omega)
 obtain ⟨L, hmap, hll, hvL, -⟩ := zLS v0 vx
 obtain ⟨j, d3, s3, hj, hd3⟩ := zM8 d2 (l0.length : Int) hd2 (by omega)
 have hjL : j < L.length := by omega
 have vj := hvL _ (o7 (l := L) (i := j) hjL)
 have sK := zMv (L.getD j default) (by have := vj.len; omega)
 rw [if_pos (checkN_zero.2 vj), checkN_zero.2 vj] at sK
 have hk12 := zB1 vj
 have hLe : u9 L = 0 := zGO hvL (by omega)
 have sSh := zH7 L (j : Int) (by omega)
 have hc := zMm hvL (by omega) hjL
 have hle := zPZ (l := L) (own := zNG (L.getD j default)) (by omega) (by omega)
 have hMis := fun t (ht : 1 ≤ t.length ∧ t.length ≤ 12 ∧ t.all y8 = true) => zPM (t ++ [46]) L j (zO0 ht hLe) hvL hjL (by omega)
 simp only [zOw] at hMis
 have hgo : ∃ g e, N6 L (j : Int) = g ∧ N5 L (j : Int) = e ∧ ((∃ s, zNN L (zNG (L.getD j default)) 12 true = some s ∧ e = 0 ∧ g = s ++ [46]) ∨ (zNN L (zNG (L.getD j default)) 12 true = none ∧ e = 11 ∧ g = [])) := by
  rcases hc with ⟨s, a, b, c⟩ | ⟨a, b, c⟩
  ·exact ⟨_, _, rfl, rfl, .inl ⟨s, a, b, c⟩⟩
  ·exact ⟨_, _, rfl, rfl, .inr ⟨a, b, c⟩⟩
 obtain ⟨g, e, hg, he, hcase⟩ := hgo
 rw [hg, he] at sSh
 generalize zNG (L.getD j default) = own at *
 obtain ⟨R, hR⟩ : ∃ R, zNN L own 12 true = R := ⟨_, rfl⟩
 rw [hR] at hle hcase
 have hle0 : o6 (W8 L own) (List.range' (0 + 1) (own.length - 1 - 0)) = R := hle
 clear hR
 have htk : List.take (l0.length + 1) (List.map sV L) = List.map sV L := List.take_of_length_le (by simp; omega)
 have hw0 : IntKind.i64.wrap (((l0.length + 1 : Nat) : Int) - 1) = (l0.length : Int) := by rw [wrap_i64 (by omega) (by omega)]; omega
 have sS := zMz
 have hjl : j < l0.length + 1 := by omega
 clear v0 vx vj hd0 hd1 hd2 hd3 h hc hle hg he hvL hLe
 refine q9 func16 rfl (fun E hE => ?_); simp only [go_sem, ntmps16]
 repeat' (first | (refine Qr rfl ?_; try intro _ hK; try simp only [go_sem, *]) | (refine Qi rfl rfl rfl rfl ?_ ?_ <;> (intro hb; (try intro _ hK); have hc := hb; try simp only [go_sem] at hc; simp only [go_sem, *])) | refine Qh rfl ?_ | (refine Qc rfl rfl ?_ ?_ <;> (intro hb; have hc := hb; try simp only [go_sem] at hc)) | refine q8 rfl ?_ | (refine j1 (s0) ?_; simp only [go_sem, *]) | ((with_reducible apply And.intro); focus omega) | (refine q7 hK ?_; clear hK; simp only [go_sem, *]) | simp only [q6, z8, go_sem, *])
 refine v8 [0] s1 ?_
 simp only [go_sem, *]
 repeat' (first | (refine Qr rfl ?_; try intro _ hK; try simp only [go_sem, *]) | (refine Qi rfl rfl rfl rfl ?_ ?_ <;> (intro hb; (try intro _ hK); have hc := hb; try simp only [go_sem] at hc; simp only [go_sem, *])) | refine Qh rfl ?_ | (refine Qc rfl rfl ?_ ?_ <;> (intro hb; have hc := hb; try simp only [go_sem] at hc)) | refine q8 rfl ?_ | ((with_reducible apply And.intro); focus omega) | (refine q7 hK ?_; clear hK; simp only [go_sem, *]) | simp only [q6, z8, go_sem, *])
 refine v8 [0] s2 ?_
 simp only [go_sem, *]
 repeat' (first | ((with_reducible refine zM2 [0, 1, 1, 1] ?_)) | (refine Qr rfl ?_; try intro _ hK; try simp only [go_sem, *]) | (refine Qi rfl rfl rfl rfl ?_ ?_ <;> (intro hb; (try intro _ hK); have hc := hb; try simp only [go_sem] at hc; simp only [go_sem, *])) | refine Qh rfl ?_ | (refine Qc rfl rfl ?_ ?_ <;> (intro hb; have hc := hb; try simp only [go_sem] at hc)) | refine q8 rfl ?_ | ((with_reducible apply And.intro); focus omega) | (refine q7 hK ?_; clear hK; simp only [go_sem, *]) | simp only [q6, z8, go_sem, *])
 all_goals try contradiction
 refine ⟨?_⟩
 refine T5 (N := 95) (env := [(3, .ptr 0 0), (4, y7 L)]) (As := [w7 d2]) [some 0] [3] (by (simp only [Weak, go_sem, List.map_append, List.map_set, *] <;> (try simp (disch := omega) only [t6]) <;> (try simp) <;> (try omega))) ?_
 clear s0 s1 s2 htk hmap
 repeat' (first | (refine Qr rfl ?_; try intro _ hK; try simp only [go_sem, *]) | (refine Qi rfl rfl rfl rfl ?_ ?_ <;> (intro hb; (try intro _ hK); have hc := hb; try simp only [go_sem] at hc; simp only [go_sem, *])) | refine Qh rfl ?_ | (refine Qc rfl rfl ?_ ?_ <;> (intro hb; have hc := hb; try simp only [go_sem] at hc)) | refine q8 rfl ?_ | ((with_reducible apply And.intro); focus omega) | (refine q7 hK ?_; clear hK; simp only [go_sem, *]) | simp only [q6, z8, go_sem, *])
 refine v8 [0] s3 ?_
 simp only [go_sem, *]
 repeat' (first | (refine Qr rfl ?_; try intro _ hK; try simp only [go_sem, *]) | (refine Qi rfl rfl rfl rfl ?_ ?_ <;> (intro hb; (try intro _ hK); have hc := hb; try simp only [go_sem] at hc; simp only [go_sem, *])) | refine Qh rfl ?_ | (refine Qc rfl rfl ?_ ?_ <;> (intro hb; have hc := hb; try simp only [go_sem] at hc)) | refine q8 rfl ?_ | (refine x5 (sSh) ?_ ?_; (focus (simp only [go_sem, *]; done)); simp only [go_sem, *]) | (refine x5 (sK) ?_ ?_; (focus (simp only [go_sem, *]; done)); simp only [go_sem, *]) | ((with_reducible apply And.intro); focus omega) | (refine q7 hK ?_; clear hK; simp only [go_sem, *]) | simp only [q6, z8, go_sem, *])
 all_goals first | contradiction | omega | skip
 refine n0 rfl (own.length - 1) (fun n => o6 (W8 L own) (List.range' (n + 1) (own.length - 1 - n)) = R) 95 (fun n => [(10, iV ((n + 1 : Nat) : Int)), (8, sV own), (7, iV e), (6, sV g), (5, iV j), (4, y7 L)]) (fun n => []) [] [] (by exact hle0) ?_; intro n hn hP
 clear s3 sSh sK hle0
 by_cases hn2 : n < own.length - 1
 ·have hnn : ((n + 1 : Nat) : Int) < (own.length : Int) := by omega
  have hwn : IntKind.i64.wrap (((n + 1 : Nat) : Int) + 1) = ((n + 1 + 1 : Nat) : Int) := t6 (by omega)
  have sA := zPm own (n + 1) (by omega) (by omega) (by omega) (by omega)
  have hfb := zPY (l := L) (own := own) (m := n + 1) (by omega) (by omega)
  have hmem := fun x (hx : x ∈ zOn own (n + 1)) => zPS (m := n + 1) (by omega) (by omega) hx
  have hAl : (zOn own (n + 1)).length ≤ 16777216 := by
   unfold zOn
   rw [zPG]
   unfold zO3
   rw [List.length_map]
   have := zPC (n := own.length - 1) (r := own.length - 1) (m := n + 1 - 1) (by omega)
   simpa using this
  rw [show own.length - 1 - n = (own.length - 1 - (n + 1)) + 1 by omega, List.range'_succ, o6] at hP
  generalize zOn own (n + 1) = A at *
  have h0 : o6 (zOs L own) (A.drop 0) = W8 L own (n + 1) := hfb
  clear hfb
  repeat' (first | (refine Qr rfl ?_; try intro _ hK; try simp only [go_sem, *]) | (refine Qi rfl rfl rfl rfl ?_ ?_ <;> (intro hb; (try intro _ hK); have hc := hb; try simp only [go_sem] at hc; simp only [go_sem, *])) | refine Qh rfl ?_ | (refine Qc rfl rfl ?_ ?_ <;> (intro hb; have hc := hb; try simp only [go_sem] at hc)) | refine q8 rfl ?_ | (refine j1 (sA) ?_; simp only [go_sem, *]) | ((with_reducible apply And.intro); focus omega) | (refine q7 hK ?_; clear hK; simp only [go_sem, *]) | simp only [q6, z8, go_sem, *])
  all_goals first | contradiction | omega | skip
  refine n0 rfl (A.length) (fun i => o6 (zOs L own) (A.drop i) = W8 L own (n + 1)) 95 (fun i => [(12, iV i), (11, .own 0 1 0 A.length), (10, iV ((n + 1 : Nat) : Int)), (8, sV own), (7, iV e), (6, sV g), (5, iV j), (4, y7 L)]) (fun i => [.row 1 (A.map sV)]) [some 0] [] (by exact h0) ?_; intro i hi hQ
  clear h0 sA
  by_cases hi2 : i < A.length
  ·have hii : (i : Int) < (A.length : Int) := by omega
   have hwi : IntKind.i64.wrap ((i : Int) + 1) = ((i + 1 : Nat) : Int) := t6 (by omega)
   obtain ⟨m1, m2, m3⟩ := hmem _ (o7 hi2)
   have sM := hMis (A.getD i default) ⟨by omega, by omega, zOy m2 hk12.2.2⟩
   rw [zPn m2 (by omega) m3, Bool.not_true, Bool.false_or] at sM
   rw [j3 hi2, o6] at hQ
   unfold zOs at hQ
   generalize hye : A.getD i default = y at *
   have hyl : y.length ≤ 1000 := by omega
   clear hmem hMis m1 m2 m3
   cases hb : p8 y L own with
   | true =>
    rw [hb] at sM
    rw [hb, if_pos rfl] at hQ
    have hQ : o6 (zOs L own) (A.drop (i + 1)) = W8 L own (n + 1) := hQ
    clear hb hcase hP
    repeat' (first | (refine Qr rfl ?_; try intro _ hK; try simp only [go_sem, *]) | (refine Qi rfl rfl rfl rfl ?_ ?_ <;> (intro hb; (try intro _ hK); have hc := hb; try simp only [go_sem] at hc; simp only [go_sem, *])) | refine Qh rfl ?_ | (refine Qc rfl rfl ?_ ?_ <;> (intro hb; have hc := hb; try simp only [go_sem] at hc)) | refine q8 rfl ?_ | (refine x5 (sM) ?_ ?_; (focus (simp only [go_sem, *]; done)); simp only [go_sem, *]) | ((with_reducible apply And.intro); focus omega) | (refine q7 hK ?_; clear hK; simp only [go_sem, *]) | simp only [q6, z8, go_sem, *])
    all_goals first | contradiction | omega | skip
    exact d7 (i' := i + 1) [some 0] [] (by exact hQ)
   | false =>
    rw [hb] at sM
    rw [hb, if_neg (by decide)] at hQ
    have hQ : some y = W8 L own (n + 1) := hQ
    rw [← hQ] at hP
    have hP2 : some y = R := hP
    clear hP
    rw [← hP2] at hcase
    rcases hcase with ⟨s, c1, c2, c3⟩ | ⟨c1, _⟩
    ·cases c1
     subst c2 c3
     have hyy : ((y ++ [46]) == (y ++ [46])) = true := by simp
     clear hb hP2 hQ
     repeat' (first | (refine Qr rfl ?_; try intro _ hK; try simp only [go_sem, *]) | (refine Qi rfl rfl rfl rfl ?_ ?_ <;> (intro hb; (try intro _ hK); have hc := hb; try simp only [go_sem] at hc; simp only [go_sem, *])) | refine Qh rfl ?_ | (refine Qc rfl rfl ?_ ?_ <;> (intro hb; have hc := hb; try simp only [go_sem] at hc)) | refine q8 rfl ?_ | (refine x5 (sM) ?_ ?_; (focus (simp only [go_sem, *]; done)); simp only [go_sem, *]) | (refine x5 (sS) ?_ ?_; (focus (simp only [go_sem, *]; done)); simp only [go_sem, *]) | ((with_reducible apply And.intro); focus omega) | (refine q7 hK ?_; clear hK; simp only [go_sem, *]) | simp only [q6, z8, go_sem, *])
     all_goals first | contradiction | omega | skip
     (refine ⟨[_], [], [], ⟨rfl, trivial⟩, ?_⟩; simp only [go_sem, *])
    ·cases c1
  ·have hii : ¬ (i : Int) < (A.length : Int) := by omega
   rw [c0 (by omega)] at hQ
   have hQ : none = W8 L own (n + 1) := hQ
   rw [← hQ] at hP
   have hP2 : o6 (W8 L own) (List.range' (n + 1 + 1) (own.length - 1 - (n + 1))) = R := hP
   clear hP hQ hcase hmem hMis
   repeat' (first | (refine Qr rfl ?_; try intro _ hK; try simp only [go_sem, *]) | (refine Qi rfl rfl rfl rfl ?_ ?_ <;> (intro hb; (try intro _ hK); have hc := hb; try simp only [go_sem] at hc; simp only [go_sem, *])) | refine Qh rfl ?_ | (refine Qc rfl rfl ?_ ?_ <;> (intro hb; have hc := hb; try simp only [go_sem] at hc)) | refine q8 rfl ?_ | ((with_reducible apply And.intro); focus omega) | (refine q7 hK ?_; clear hK; simp only [go_sem, *]) | simp only [q6, z8, go_sem, *])
   all_goals first | contradiction | omega | skip
   exact d7 (i' := n + 1) [] [] (by exact hP2)
 ·have hnn : ¬ ((n + 1 : Nat) : Int) < (own.length : Int) := by omega
  rw [show own.length - 1 - n = 0 by omega] at hP
  have hP2 : none = R := hP
  rw [← hP2] at hcase
  clear hP2
  rcases hcase with ⟨s, c1, _⟩ | ⟨_, c2, c3⟩
  ·cases c1
  ·subst c2 c3
   have hyy : (([] : Str) == []) = true := rfl
   clear hP hMis
   repeat' (first | (refine Qr rfl ?_; try intro _ hK; try simp only [go_sem, *]) | (refine Qi rfl rfl rfl rfl ?_ ?_ <;> (intro hb; (try intro _ hK); have hc := hb; try simp only [go_sem] at hc; simp only [go_sem, *])) | refine Qh rfl ?_ | (refine Qc rfl rfl ?_ ?_ <;> (intro hb; have hc := hb; try simp only [go_sem] at hc)) | refine q8 rfl ?_ | (refine x5 (sS) ?_ ?_; (focus (simp only [go_sem, *]; done)); simp only [go_sem, *]) | ((with_reducible apply And.intro); focus omega) | (refine q7 hK ?_; clear hK; simp only [go_sem, *]) | simp only [q6, z8, go_sem, *])
   all_goals first | contradiction | omega | skip
   (refine ⟨[_], [], [], ⟨rfl, trivial⟩, ?_⟩; simp only [go_sem, *])
end Go.Abs

