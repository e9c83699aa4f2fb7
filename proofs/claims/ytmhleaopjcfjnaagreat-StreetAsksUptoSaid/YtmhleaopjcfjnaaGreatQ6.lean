/-
  WHAT THE PROOF STANDS ON, PART 6: contracts of the program's functions and the logic that they are proved in. No condition.
-/
import Derived.Test.YtmhleaopjcfjnaaGreatQ5
set_option maxRecDepth 100000
set_option maxHeartbeats 4000000
set_option linter.unusedVariables false
set_option linter.unusedSimpArgs false
set_option linter.unusedSectionVars false
namespace Go.Abs
open Go Go.Proofs Tryz
attribute [local irreducible] y6 Hold x8
theorem zO5 (a b : List House) (h1 : a.length ≤ 4294967296) : zLp prog 149 [Q3 a, Q3 b] [] (bV (decide (a = b))) [] := by
 refine q8 func149 rfl (fun E hE => ?_); simp only [go_sem, ntmps149]
 repeat' (first | (refine Qr rfl ?_; try intro _ hK; try simp only [go_sem, *]) | refine Qh rfl ?_ | refine Qd rfl (by kernel_rfl) ?_ | (refine Qc rfl rfl ?_ ?_ <;> (intro hb; have hc := hb; try simp only [go_sem] at hc)) | refine q6 rfl ?_ | (refine Qb ?_ ?_; focus kernel_rfl) | ((with_reducible apply And.intro); focus omega) | (refine z8 hK ?_; clear hK; simp only [go_sem, *]) | simp only [z6, z7, go_sem, *])
 ·(refine ⟨[_], [], [], ⟨rfl, trivial⟩, ?_⟩; simp only [go_sem, *])
  simp [X1 (a := a) (b := b) (by assumption)]
 ·have hlb : a.length = b.length := by assumption
  refine u3 rfl (b.length) (fun i => a.take i = b.take i) 26 (fun i => [(5, iV i), (0, Q3 a), (1, Q3 b)]) (fun i => []) [] [] (by simp) ?_; intro i hi hP
  repeat' (first | (refine Qr rfl ?_; try intro _ hK; try simp only [go_sem, *]) | refine Qh rfl ?_ | refine Qd rfl (by kernel_rfl) ?_ | (refine Qc rfl rfl ?_ ?_ <;> (intro hb; have hc := hb; try simp only [go_sem] at hc)) | refine q6 rfl ?_ | (refine Qb ?_ ?_; focus kernel_rfl) | ((with_reducible apply And.intro); focus omega) | (refine z8 hK ?_; clear hK; simp only [go_sem, *]) | simp only [z6, z7, go_sem, *])
  ·(refine ⟨[_], [], [], ⟨rfl, trivial⟩, ?_⟩; simp only [go_sem, *])
   simp [W5 (a := a) (b := b) (i := i) (by assumption)]
  ·exact u2 (i' := i + 1) [] [] (by exact W4 (by omega) (by omega) hP (by assumption))
  ·(refine ⟨[_], [], [], ⟨rfl, trivial⟩, ?_⟩; simp only [go_sem, *])
   simp [W3 (by omega) hlb hP]
def zR1 (p : zLo) (t : Truth) : AObj := .box [.list (t.ways.map iV), .list (t.fin.map y7), .list ((q9 p).map fun h => Q3 (t.now h))]
theorem zPE (p : zLo) (x y : Truth) (ls : List Int) (hw : ∀ k, k ∈ ls → 0 ≤ k ∧ k < (q9 p).length) (hl : ls.length ≤ 1000) (hx : ∀ h, h ∈ q9 p → (x.now h).length ≤ 1000) :
  zLp prog 150 [x.encR p, y.encR p, j4 ls] [] (bV (zNC x y (zM6 (q9 p) ls))) [] := by
 have hF := fun i => zOq (x := x) (y := y) (hs := zM6 (q9 p) ls) (i := i)
 have hT := fun i => zOo (x := x) (y := y) (hs := zM6 (q9 p) ls) (i := i)
 have hcl : (zM6 (q9 p) ls).length = ls.length := by simp [zM6]
 have hcg : ∀ i n : Nat, i < ls.length → ls.getD i default = n → (zM6 (q9 p) ls).getD i default = (q9 p).getD n default := fun i n hi hn => by
  simp only [List.getD, List.getElem?_eq_getElem hi, Option.getD_some] at hn
  simp [zM6, List.getD, hi, hn]
 have hN := fun i => zOp (x := x) (y := y) (hs := zM6 (q9 p) ls) (i := i)
 have h0 : zNS x y (zM6 (q9 p) ls) 0 := fun z hz => by cases hz
 generalize zNC x y (zM6 (q9 p) ls) = L at *
 generalize zM6 (q9 p) ls = C at *
 have rx : zR1 p x = .box [.list (x.ways.map iV), .list (x.fin.map y7), .list ((q9 p).map fun h => Q3 (x.now h))] := rfl
 have ry : zR1 p y = .box [.list (y.ways.map iV), .list (y.fin.map y7), .list ((q9 p).map fun h => Q3 (y.now h))] := rfl
 generalize hHd : q9 p = H at *
 refine q8 func150 rfl (fun E hE => ?_); simp only [go_sem, ntmps150]
 repeat' (first | (refine Qr rfl ?_; try intro _ hK; try simp only [go_sem, *]) | refine Qh rfl ?_ | refine Qd rfl (by kernel_rfl) ?_ | (refine Qc rfl rfl ?_ ?_ <;> (intro hb; have hc := hb; try simp only [go_sem] at hc)) | refine q6 rfl ?_ | (refine Qb ?_ ?_; focus kernel_rfl) | ((with_reducible apply And.intro); focus omega) | (refine z8 hK ?_; clear hK; simp only [go_sem, *]) | simp only [z6, z7, go_sem, *])
 all_goals try contradiction
 refine u3 rfl (ls.length) (fun i => zNS x y C i) 32 (fun i => [(7, iV i), (2, j4 ls), (4, .ptr 1 0), (3, .ptr 0 0)]) (fun i => [.box [.list (x.ways.map iV), .list (x.fin.map y7), .list (H.map fun h => Q3 (x.now h))], .box [.list (y.ways.map iV), .list (y.fin.map y7), .list (H.map fun h => Q3 (y.now h))]]) [some 0, some 1] [] (by exact h0) ?_; intro i hi hP
 clear h0 rx ry
 by_cases hi : i < ls.length
 ·have hi3 : (i : Int) < ls.length := by omega
  obtain ⟨hz0, hz1⟩ := hw _ (w8 (l := ls) hi)
  obtain ⟨n, hn⟩ : ∃ n : Nat, ls.getD i default = n := ⟨(ls.getD i default).toNat, by omega⟩
  have hnH : n < H.length := by omega
  have hxl := hx _ (w8 hnH)
  have hcn := hcg i n hi hn
  have hF1 := hF i (by omega)
  have hN1 := hN i (by omega) hP
  rw [hcn] at hF1 hN1
  have sc := zO5 (x.now (H.getD n default)) (y.now (H.getD n default)) (by omega)
  generalize decide (x.now (H.getD n default) = y.now (H.getD n default)) = D at *
  clear hF hT hN hcg hcn hz0 hz1 hw
  cases D with
  | true =>
   have hN2 := hN1 rfl
   clear hF1 hN1
   repeat' (first | (refine Qr rfl ?_; try intro _ hK; try simp only [go_sem, *]) | refine Qh rfl ?_ | refine Qd rfl (by kernel_rfl) ?_ | (refine Qc rfl rfl ?_ ?_ <;> (intro hb; have hc := hb; try simp only [go_sem] at hc)) | refine q6 rfl ?_ | (refine Qb ?_ ?_; focus kernel_rfl) | (refine y4 (sc) ?_; simp only [go_sem, *]) | ((with_reducible apply And.intro); focus omega) | (refine z8 hK ?_; clear hK; simp only [go_sem, *]) | simp only [z6, z7, go_sem, *])
   all_goals try contradiction
   exact u2 (i' := i + 1) [some 0, some 1] [] (by exact hN2)
  | false =>
   have hL := hF1 rfl
   clear hF1 hN1
   subst hL
   repeat' (first | (refine Qr rfl ?_; try intro _ hK; try simp only [go_sem, *]) | refine Qh rfl ?_ | refine Qd rfl (by kernel_rfl) ?_ | (refine Qc rfl rfl ?_ ?_ <;> (intro hb; have hc := hb; try simp only [go_sem] at hc)) | refine q6 rfl ?_ | (refine Qb ?_ ?_; focus kernel_rfl) | (refine y4 (sc) ?_; simp only [go_sem, *]) | ((with_reducible apply And.intro); focus omega) | (refine z8 hK ?_; clear hK; simp only [go_sem, *]) | simp only [z6, z7, go_sem, *])
   all_goals try contradiction
   (refine ⟨[_], [], [], ⟨rfl, trivial⟩, ?_⟩; simp only [go_sem, *])
 ·have hi3 : ¬ (i : Int) < ls.length := by omega
  have hL := hT i (by omega) hP
  clear hF hT hN hcg
  subst hL
  repeat' (first | (refine Qr rfl ?_; try intro _ hK; try simp only [go_sem, *]) | refine Qh rfl ?_ | refine Qd rfl (by kernel_rfl) ?_ | (refine Qc rfl rfl ?_ ?_ <;> (intro hb; have hc := hb; try simp only [go_sem] at hc)) | refine q6 rfl ?_ | (refine Qb ?_ ?_; focus kernel_rfl) | ((with_reducible apply And.intro); focus omega) | (refine z8 hK ?_; clear hK; simp only [go_sem, *]) | simp only [z6, z7, go_sem, *])
  all_goals try contradiction
  (refine ⟨[_], [], [], ⟨rfl, trivial⟩, ?_⟩; simp only [go_sem, *])
theorem zQ0 (p : zLo) (l : List Truth) (ls al : List Int) (hlt : l.length ≤ 1000) (hw : ∀ k, k ∈ ls → 0 ≤ k ∧ k < (q9 p).length) (hl : ls.length ≤ 1000) (haw : ∀ k, k ∈ al → 0 ≤ k ∧ k < (q9 p).length) (hal : al.length ≤ 1000) (hac : zM6 (q9 p) al = q9 p)
  (hx : ∀ t, t ∈ l → ∀ h, h ∈ q9 p → (t.now h).length ≤ 1000) :
  zLp prog 122 [.list (l.map (Truth.encR p)), j4 ls, j4 al] [] (bV (zNA l (q9 p) (zM6 (q9 p) ls))) [] := by
 have h0 := zO2 l (q9 p) (zM6 (q9 p) ls)
 have hF := fun i j => zO1 (l := l) (hs := q9 p) (pre := zM6 (q9 p) ls) (i := i) (j := j)
 have hT := fun i => zOy (l := l) (hs := q9 p) (pre := zM6 (q9 p) ls) (i := i)
 have sL := fun (x y : Truth) (hx) => zPE p x y ls hw hl hx
 have sA := fun (x y : Truth) (hx) => zPE p x y al haw hal hx
 rw [hac] at sA
 have hok : ∀ a b, okT l (q9 p) (zM6 (q9 p) ls) a b = (!zNC (l.getD a default) (l.getD b default) (zM6 (q9 p) ls) || zNC (l.getD a default) (l.getD b default) (q9 p)) := fun a b => rfl
 have hN := fun i => zOz (l := l) (hs := q9 p) (pre := zM6 (q9 p) ls) (i := i)
 have hM := fun i j => zO0 (l := l) (hs := q9 p) (pre := zM6 (q9 p) ls) (i := i) (j := j)
 generalize zNA l (q9 p) (zM6 (q9 p) ls) = S at *
 clear hac hw haw
 generalize zM6 (q9 p) ls = C at *
 refine q8 func122 rfl (fun E hE => ?_); simp only [go_sem, ntmps122]
 repeat' (first | (refine Qr rfl ?_; try intro _ hK; try simp only [go_sem, *]) | (refine Qi rfl rfl rfl rfl ?_ ?_ <;> (intro hb; (try intro _ hK); have hc := hb; try simp only [go_sem] at hc; simp only [go_sem, *])) | refine Qh rfl ?_ | refine Qd rfl (by kernel_rfl) ?_ | (refine Qc rfl rfl ?_ ?_ <;> (intro hb; have hc := hb; try simp only [go_sem] at hc)) | refine q6 rfl ?_ | (refine Qb ?_ ?_; focus kernel_rfl) | ((with_reducible apply And.intro); focus omega) | (refine z8 hK ?_; clear hK; simp only [go_sem, *]) | simp only [z6, z7, go_sem, *])
 all_goals try contradiction
 refine u3 rfl (l.length) (fun i => zNL l (q9 p) C i 0) 43 (fun i => [(7, iV i), (2, j4 al), (1, j4 ls), (0, .list (l.map (Truth.encR p)))]) (fun i => []) [] [] (by exact h0) ?_; intro i hi hP
 clear h0
 by_cases hi : i < l.length
 ·have hi3 : (i : Int) < l.length := by omega
  have hF1 := fun j => hF i j hi
  have sL1 := fun y => sL (l.getD i default) y (hx _ (w8 hi))
  have sA1 := fun y => sA (l.getD i default) y (hx _ (w8 hi))
  clear hF hT sL sA
  repeat' (first | (refine Qr rfl ?_; try intro _ hK; try simp only [go_sem, *]) | (refine Qi rfl rfl rfl rfl ?_ ?_ <;> (intro hb; (try intro _ hK); have hc := hb; try simp only [go_sem] at hc; simp only [go_sem, *])) | refine Qh rfl ?_ | refine Qd rfl (by kernel_rfl) ?_ | (refine Qc rfl rfl ?_ ?_ <;> (intro hb; have hc := hb; try simp only [go_sem] at hc)) | refine q6 rfl ?_ | (refine Qb ?_ ?_; focus kernel_rfl) | ((with_reducible apply And.intro); focus omega) | (refine z8 hK ?_; clear hK; simp only [go_sem, *]) | simp only [z6, z7, go_sem, *])
  all_goals try contradiction
  refine u3 rfl (i) (fun j => zNL l (q9 p) C i j) 43 (fun j => [(8, iV j), (7, iV i), (2, j4 al), (1, j4 ls), (0, .list (l.map (Truth.encR p)))]) (fun j => []) [] [] (by exact hP) ?_; intro j hj hQ
  clear hP
  by_cases hj : j < i
  ·have hj3 : (j : Int) < i := by omega
   have hjl : j < l.length := by omega
   have hF2 := hF1 j hj
   have hN2 := hM i j hQ
   have sL2 := sL1 (l.getD j default)
   have sA2 := sA1 (l.getD j default)
   rw [hok] at hF2 hN2
   generalize zNC (l.getD i default) (l.getD j default) C = c1 at *
   generalize zNC (l.getD i default) (l.getD j default) (q9 p) = c2 at *
   clear hF1 sL1 sA1 hok hN hM
   cases c1 with
   | false =>
    have hN3 := hN2 rfl
    clear hF2 hN2
    repeat' (first | (refine Qr rfl ?_; try intro _ hK; try simp only [go_sem, *]) | (refine Qi rfl rfl rfl rfl ?_ ?_ <;> (intro hb; (try intro _ hK); have hc := hb; try simp only [go_sem] at hc; simp only [go_sem, *])) | refine Qh rfl ?_ | refine Qd rfl (by kernel_rfl) ?_ | (refine Qc rfl rfl ?_ ?_ <;> (intro hb; have hc := hb; try simp only [go_sem] at hc)) | refine q6 rfl ?_ | (refine Qb ?_ ?_; focus kernel_rfl) | (refine zD5 (sL2) ?_ ?_; (focus (simp only [go_sem, *]; done)); simp only [go_sem, *]) | (refine zD5 (sA2) ?_ ?_; (focus (simp only [go_sem, *]; done)); simp only [go_sem, *]) | ((with_reducible apply And.intro); focus omega) | (refine z8 hK ?_; clear hK; simp only [go_sem, *]) | simp only [z6, z7, go_sem, *])
    all_goals try contradiction
    exact u2 (i' := j + 1) [] [] (by exact hN3)
   | true =>
    cases c2 with
    | true =>
     have hN3 := hN2 rfl
     clear hF2 hN2
     repeat' (first | (refine Qr rfl ?_; try intro _ hK; try simp only [go_sem, *]) | (refine Qi rfl rfl rfl rfl ?_ ?_ <;> (intro hb; (try intro _ hK); have hc := hb; try simp only [go_sem] at hc; simp only [go_sem, *])) | refine Qh rfl ?_ | refine Qd rfl (by kernel_rfl) ?_ | (refine Qc rfl rfl ?_ ?_ <;> (intro hb; have hc := hb; try simp only [go_sem] at hc)) | refine q6 rfl ?_ | (refine Qb ?_ ?_; focus kernel_rfl) | (refine zD5 (sL2) ?_ ?_; (focus (simp only [go_sem, *]; done)); simp only [go_sem, *]) | (refine zD5 (sA2) ?_ ?_; (focus (simp only [go_sem, *]; done)); simp only [go_sem, *]) | ((with_reducible apply And.intro); focus omega) | (refine z8 hK ?_; clear hK; simp only [go_sem, *]) | simp only [z6, z7, go_sem, *])
     all_goals try contradiction
     exact u2 (i' := j + 1) [] [] (by exact hN3)
    | false =>
     have hS := hF2 rfl
     clear hF2 hN2
     subst hS
     repeat' (first | (refine Qr rfl ?_; try intro _ hK; try simp only [go_sem, *]) | (refine Qi rfl rfl rfl rfl ?_ ?_ <;> (intro hb; (try intro _ hK); have hc := hb; try simp only [go_sem] at hc; simp only [go_sem, *])) | refine Qh rfl ?_ | refine Qd rfl (by kernel_rfl) ?_ | (refine Qc rfl rfl ?_ ?_ <;> (intro hb; have hc := hb; try simp only [go_sem] at hc)) | refine q6 rfl ?_ | (refine Qb ?_ ?_; focus kernel_rfl) | (refine zD5 (sL2) ?_ ?_; (focus (simp only [go_sem, *]; done)); simp only [go_sem, *]) | (refine zD5 (sA2) ?_ ?_; (focus (simp only [go_sem, *]; done)); simp only [go_sem, *]) | ((with_reducible apply And.intro); focus omega) | (refine z8 hK ?_; clear hK; simp only [go_sem, *]) | simp only [z6, z7, go_sem, *])
     all_goals try contradiction
     (refine ⟨[_], [], [], ⟨rfl, trivial⟩, ?_⟩; simp only [go_sem, *])
  ·have hj3 : ¬ (j : Int) < i := by omega
   obtain rfl : j = i := by omega
   have hN2 := hN j hQ
   clear hF1 sL1 sA1 hok hN hM
   repeat' (first | (refine Qr rfl ?_; try intro _ hK; try simp only [go_sem, *]) | (refine Qi rfl rfl rfl rfl ?_ ?_ <;> (intro hb; (try intro _ hK); have hc := hb; try simp only [go_sem] at hc; simp only [go_sem, *])) | refine Qh rfl ?_ | refine Qd rfl (by kernel_rfl) ?_ | (refine Qc rfl rfl ?_ ?_ <;> (intro hb; have hc := hb; try simp only [go_sem] at hc)) | refine q6 rfl ?_ | (refine Qb ?_ ?_; focus kernel_rfl) | ((with_reducible apply And.intro); focus omega) | (refine z8 hK ?_; clear hK; simp only [go_sem, *]) | simp only [z6, z7, go_sem, *])
   all_goals try contradiction
   exact u2 (i' := j + 1) [] [] (by exact hN2)
 ·have hi3 : ¬ (i : Int) < l.length := by omega
  have hS := hT i (by omega) hP
  clear hF hT sL sA hx hok hN hM
  subst hS
  repeat' (first | (refine Qr rfl ?_; try intro _ hK; try simp only [go_sem, *]) | (refine Qi rfl rfl rfl rfl ?_ ?_ <;> (intro hb; (try intro _ hK); have hc := hb; try simp only [go_sem] at hc; simp only [go_sem, *])) | refine Qh rfl ?_ | refine Qd rfl (by kernel_rfl) ?_ | (refine Qc rfl rfl ?_ ?_ <;> (intro hb; have hc := hb; try simp only [go_sem] at hc)) | refine q6 rfl ?_ | (refine Qb ?_ ?_; focus kernel_rfl) | ((with_reducible apply And.intro); focus omega) | (refine z8 hK ?_; clear hK; simp only [go_sem, *]) | simp only [z6, z7, go_sem, *])
  all_goals try contradiction
  (refine ⟨[_], [], [], ⟨rfl, trivial⟩, ?_⟩; simp only [go_sem, *])
end Go.Abs

namespace Go.Abs
open Go Go.Proofs Tryz
attribute [local irreducible] y6 Hold x8
theorem zO9 (n : Nat) (hn : n ≤ 24) : ∀ (m start : Nat), m ≤ 24 → start ≤ n →
  zLp prog 121 [iV start, iV n, iV m] [] (.list ((zM7 n m (n - start)).map j4)) []
 | 0, start, hm, hs => by
  rw [zNt]
  refine q8 func121 rfl (fun E hE => ?_); simp only [go_sem, ntmps121]
  repeat' (first | (refine Qr rfl ?_; try intro _ hK; try simp only [go_sem, *]) | refine Qh rfl ?_ | (refine Qc rfl rfl ?_ ?_ <;> (intro hb; have hc := hb; try simp only [go_sem] at hc)) | refine q6 rfl ?_ | ((with_reducible apply And.intro); focus omega) | (refine z8 hK ?_; clear hK; simp only [go_sem, *]) | simp only [z6, z7, go_sem, *])
  all_goals try contradiction
  refine ⟨[.own 0 1 0 1], [], [0], ⟨rfl, trivial⟩, ?_⟩
  simp only [go_sem, *]
 | m + 1, start, hm, hs => by
  have IH := fun i (hi : i + 1 ≤ n) => zO9 n hn m (i + 1) (by omega) hi
  have hRl := zNz (n := n) (r := n - start) (m := m + 1) (by omega)
  obtain ⟨R, hR0⟩ : ∃ R, ([] : List (List Int)) ++ zM7 n (m + 1) (n - start) = R := ⟨_, rfl⟩
  have hR1 : zM7 n (m + 1) (n - start) = R := hR0
  rw [hR1] at hRl ⊢
  clear hR1
  have hst := fun i => zPP (n := n) (m := m) (i := i)
  have hno := fun i => zNs n i (m + 1)
  have hw1 : IntKind.i64.wrap (((m + 1 : Nat) : Int) - 1) = (m : Int) := by rw [wrap_i64 (by omega) (by omega)]; omega
  have hz : (((m + 1 : Nat) : Int) == 0) = false := by rw [beq_eq_false_iff_ne]; omega
  obtain ⟨M, hM⟩ : ∃ M, M = m + 1 := ⟨_, rfl⟩
  rw [← hM] at hw1 hz hst hno hR0 ⊢
  have hM2 : m < M := by omega
  have hM3 : M ≤ 24 := by omega
  clear hM
  refine q8 func121 rfl (fun E hE => ?_); simp only [go_sem, ntmps121]
  repeat' (first | (refine Qr rfl ?_; try intro _ hK; try simp only [go_sem, *]) | refine Qh rfl ?_ | (refine Qc rfl rfl ?_ ?_ <;> (intro hb; have hc := hb; try simp only [go_sem] at hc)) | refine q6 rfl ?_ | ((with_reducible apply And.intro); focus omega) | (refine z8 hK ?_; clear hK; simp only [go_sem, *]) | simp only [z6, z7, go_sem, *])
  all_goals try contradiction
  refine O6 rfl (n - start) (fun q (i : Nat) (acc : List (List Int)) => (start + q ≤ i ∧ i ≤ start + q) ∧ acc ++ zM7 n M (n - i) = R) 43 (fun q i acc => [(8, iV i), (7, .own 0 1 0 acc.length), (1, iV n), (2, iV M)]) (fun q i acc => [.box (acc.map j4)]) [none] [] (start) ([]) (by exact ⟨⟨Nat.le_refl _, Nat.le_refl _⟩, hR0⟩) ?_; intro q i acc hq hP
  clear hR0
  obtain ⟨⟨hik1, hik2⟩, hP⟩ := hP
  have hiM : i ≤ n := by omega
  have hw3 : IntKind.i64.wrap ((i : Int) + 1) = ((i + 1 : Nat) : Int) := by rw [wrap_i64 (by omega) (by omega)]; omega
  by_cases hi : i < n
  ·have hi3 : (i : Int) < n := by omega
   rw [hst i (by omega)] at hP
   have ih := IH i (by omega)
   have hWm : ∀ l, l ∈ zM7 n m (n - (i + 1)) → l.length ≤ 24 := fun l hm => by have := (zNi n _ m l (by omega) hm).1; omega
   generalize zM7 n m (n - (i + 1)) = W at *
   generalize hT : zM7 n M (n - (i + 1)) = T at *
   clear IH hst hno
   have hP0 : acc ++ ((W.drop 0).map (fun l => (i : Int) :: l) ++ T) = R := hP
   have hql := congrArg List.length hP
   simp only [List.length_append, List.length_map] at hql
   have hWl : W.length ≤ 16777216 := by omega
   clear hql
   repeat' (first | (refine Qr rfl ?_; try intro _ hK; try simp only [go_sem, *]) | refine Qh rfl ?_ | (refine Qc rfl rfl ?_ ?_ <;> (intro hb; have hc := hb; try simp only [go_sem] at hc)) | refine q6 rfl ?_ | (refine y4 (ih) ?_; simp only [go_sem, *]) | ((with_reducible apply And.intro); focus omega) | (refine z8 hK ?_; clear hK; simp only [go_sem, *]) | simp only [z6, z7, go_sem, *])
   all_goals try contradiction
   clear hP
   refine u4 rfl (W.length) (fun k (ac : List (List Int)) => ac ++ ((W.drop k).map (fun l => (i : Int) :: l) ++ T) = R) 43 (fun k ac => [(10, iV k), (9, .list (W.map j4)), (8, iV i), (7, .own 0 1 0 ac.length), (1, iV n), (2, iV M)]) (fun k ac => [.box (ac.map j4)]) [some 0] [] (acc) (by exact hP0) ?_; intro k ac hk hQ
   clear hP0
   by_cases hk : k < W.length
   ·have hk3 : (k : Int) < W.length := by omega
    rw [u0 hk, List.map_cons] at hQ
    have hql := congrArg List.length hQ
    simp only [List.length_append, List.length_map, List.length_cons] at hql
    have hWk := hWm _ (w8 hk)
    clear hWm
    generalize hw0 : W.getD k default = w at *
    have ht : ∀ a : AV, List.take (1 + w.length) ([a] ++ List.map iV w) = a :: List.map iV w := fun a => List.take_of_length_le (by simp; omega)
    have ht2 : ∀ a : AV, List.take (1 + w.length) (a :: List.map iV w) = a :: List.map iV w := ht
    have ht3 : 1 + w.length ≤ w.length + 1 := by omega
    repeat' (first | (refine Qr rfl ?_; try intro _ hK; try simp only [go_sem, *]) | refine Qh rfl ?_ | (refine Qc rfl rfl ?_ ?_ <;> (intro hb; have hc := hb; try simp only [go_sem] at hc)) | refine q6 rfl ?_ | (with_reducible (show (∀ _ : AV, _ → _) ∧ _); refine And.intro ?_ ?_; (focus (intro y hy; first | (obtain ⟨z, _, rfl⟩ := List.mem_map.1 (hy); simp [go_sem]; done) | (obtain ⟨z, _, rfl⟩ := List.mem_map.1 (List.mem_of_mem_take hy); simp [go_sem]; done) | (obtain ⟨z, _, rfl⟩ := List.mem_map.1 (List.mem_of_mem_drop hy); simp [go_sem]; done) | (obtain ⟨z, _, rfl⟩ := List.mem_map.1 (List.mem_of_mem_drop (List.mem_of_mem_take hy)); simp [go_sem]; done)))) | ((with_reducible apply And.intro); focus omega) | (refine z8 hK ?_; clear hK; simp only [go_sem, *]) | simp only [z6, z7, go_sem, *])
    all_goals try contradiction
    exact w6 (i' := k + 1) [some 4] [2] (ac ++ [(i : Int) :: w]) (by rw [← hQ]; simp)
   ·have hk3 : ¬ (k : Int) < W.length := by omega
    rw [u7 (by omega), List.map_nil, List.nil_append] at hQ
    repeat' (first | (refine Qr rfl ?_; try intro _ hK; try simp only [go_sem, *]) | refine Qh rfl ?_ | (refine Qc rfl rfl ?_ ?_ <;> (intro hb; have hc := hb; try simp only [go_sem] at hc)) | refine q6 rfl ?_ | ((with_reducible apply And.intro); focus omega) | (refine z8 hK ?_; clear hK; simp only [go_sem, *]) | simp only [z6, z7, go_sem, *])
    all_goals try contradiction
    exact Z2 (i' := q + 1) [some 0] [] (i + 1) (ac) (by rw [hT]; exact ⟨⟨by omega, by omega⟩, hQ⟩)
  ·have hi3 : ¬ (i : Int) < n := by omega
   rw [hno _ (by omega), List.append_nil] at hP
   subst hP
   clear IH hst hno
   repeat' (first | (refine Qr rfl ?_; try intro _ hK; try simp only [go_sem, *]) | refine Qh rfl ?_ | (refine Qc rfl rfl ?_ ?_ <;> (intro hb; have hc := hb; try simp only [go_sem] at hc)) | refine q6 rfl ?_ | ((with_reducible apply And.intro); focus omega) | (refine z8 hK ?_; clear hK; simp only [go_sem, *]) | simp only [z6, z7, go_sem, *])
   all_goals try contradiction
   refine ⟨[.own 0 1 0 acc.length], [], [0], ⟨rfl, trivial⟩, ?_⟩
   simp only [go_sem, *]
   intro x hx
   obtain ⟨y, _, rfl⟩ := List.mem_map.1 hx
   rfl
theorem zQz (p : zLo) (l : List Truth) (k : Nat) (hk0 : k < (q9 p).length) (hl : l.length ≤ 1000) (hnl : ∀ t, t ∈ l → (t.now ((q9 p).getD k default)).length ≤ 1000) :
  zLp prog 120 [.list (l.map (Truth.encR p)), iV k] [] (iV (o8 l ((q9 p).getD k default))) [] := by
 have hG0 : (l.drop 0).foldl (fun m x => max m (Z4 l ((q9 p).getD k default) x)) 0 = o8 l ((q9 p).getD k default) := rfl
 have hGl := zBo l ((q9 p).getD k default)
 generalize hHd : q9 p = H at *
 generalize o8 l (H.getD k default) = G at *
 refine q8 func120 rfl (fun E hE => ?_); simp only [go_sem, ntmps120]
 repeat' (first | (refine Qr rfl ?_; try intro _ hK; try simp only [go_sem, *]) | refine Qh rfl ?_ | refine Qd rfl (by kernel_rfl) ?_ | (refine Qc rfl rfl ?_ ?_ <;> (intro hb; have hc := hb; try simp only [go_sem] at hc)) | refine q6 rfl ?_ | (refine Qb ?_ ?_; focus kernel_rfl) | ((with_reducible apply And.intro); focus omega) | (refine z8 hK ?_; clear hK; simp only [go_sem, *]) | simp only [z6, z7, go_sem, *])
 all_goals try contradiction
 refine u4 rfl (l.length) (fun i (m : Nat) => (l.drop i).foldl (fun m x => max m (Z4 l (H.getD k default) x)) m = G) 44 (fun i m => [(6, iV i), (5, iV m), (1, iV k), (0, .list (l.map (Truth.encR p)))]) (fun i m => []) [] [] (0) (by exact hG0) ?_; intro i m hi hP
 clear hG0
 by_cases hi2 : i < l.length
 ·have hi3 : (i : Int) < l.length := by omega
  rw [zFG hi2] at hP
  have hxl := hnl _ (w8 hi2)
  have hsl := zCt l (H.getD k default) (l.getD i default)
  have hQ0 : 0 + (l.drop 0).countP (fun y => decide ((l.getD i default).now (H.getD k default) = y.now (H.getD k default))) = Z4 l (H.getD k default) (l.getD i default) := by rw [List.drop_zero, Nat.zero_add]; rfl
  generalize Z4 l (H.getD k default) (l.getD i default) = sn at *
  repeat' (first | (refine Qr rfl ?_; try intro _ hK; try simp only [go_sem, *]) | refine Qh rfl ?_ | refine Qd rfl (by kernel_rfl) ?_ | (refine Qc rfl rfl ?_ ?_ <;> (intro hb; have hc := hb; try simp only [go_sem] at hc)) | refine q6 rfl ?_ | (refine Qb ?_ ?_; focus kernel_rfl) | ((with_reducible apply And.intro); focus omega) | (refine z8 hK ?_; clear hK; simp only [go_sem, *]) | simp only [z6, z7, go_sem, *])
  all_goals try contradiction
  refine u4 rfl (l.length) (fun j (n : Nat) => n + (l.drop j).countP (fun y => decide ((l.getD i default).now (H.getD k default) = y.now (H.getD k default))) = sn) 44 (fun j n => [(8, iV j), (7, iV n), (6, iV i), (5, iV m), (1, iV k), (0, .list (l.map (Truth.encR p)))]) (fun j n => []) [] [] (0) (by exact hQ0) ?_; intro j n hj hQ
  clear hQ0
  by_cases hj2 : j < l.length
  ·have hj3 : (j : Int) < l.length := by omega
   rw [zEE hj2] at hQ
   have sE := zO5 ((l.getD i default).now (H.getD k default)) ((l.getD j default).now (H.getD k default)) (by omega)
   cases hd : decide ((l.getD i default).now (H.getD k default) = (l.getD j default).now (H.getD k default)) with
   | true =>
    rw [hd] at sE hQ
    clear hd hnl
    repeat' (first | (refine Qr rfl ?_; try intro _ hK; try simp only [go_sem, *]) | refine Qh rfl ?_ | refine Qd rfl (by kernel_rfl) ?_ | (refine Qc rfl rfl ?_ ?_ <;> (intro hb; have hc := hb; try simp only [go_sem] at hc)) | refine q6 rfl ?_ | (refine Qb ?_ ?_; focus kernel_rfl) | (refine y4 (sE) ?_; simp only [go_sem, *]) | ((with_reducible apply And.intro); focus omega) | (refine z8 hK ?_; clear hK; simp only [go_sem, *]) | simp only [z6, z7, go_sem, *])
    all_goals try contradiction
    exact w6 (i' := j + 1) [] [] (n + 1) (by rw [← hQ]; simp; omega)
   | false =>
    rw [hd] at sE hQ
    clear hd hnl
    repeat' (first | (refine Qr rfl ?_; try intro _ hK; try simp only [go_sem, *]) | refine Qh rfl ?_ | refine Qd rfl (by kernel_rfl) ?_ | (refine Qc rfl rfl ?_ ?_ <;> (intro hb; have hc := hb; try simp only [go_sem] at hc)) | refine q6 rfl ?_ | (refine Qb ?_ ?_; focus kernel_rfl) | (refine y4 (sE) ?_; simp only [go_sem, *]) | ((with_reducible apply And.intro); focus omega) | (refine z8 hK ?_; clear hK; simp only [go_sem, *]) | simp only [z6, z7, go_sem, *])
    all_goals try contradiction
    exact w6 (i' := j + 1) [] [] (n) (by rw [← hQ]; simp)
  ·have hj3 : ¬ (j : Int) < l.length := by omega
   rw [u7 (by omega)] at hQ
   have hn : n = sn := by simpa using hQ
   subst hn
   have hmx := zGL m n
   repeat' (first | (refine Qr rfl ?_; try intro _ hK; try simp only [go_sem, *]) | refine Qh rfl ?_ | refine Qd rfl (by kernel_rfl) ?_ | (refine Qc rfl rfl ?_ ?_ <;> (intro hb; have hc := hb; try simp only [go_sem] at hc)) | refine q6 rfl ?_ | (refine Qb ?_ ?_; focus kernel_rfl) | ((with_reducible apply And.intro); focus omega) | (refine z8 hK ?_; clear hK; simp only [go_sem, *]) | simp only [z6, z7, go_sem, *])
   all_goals try contradiction
   exact w6 (i' := i + 1) [] [] (max m n) (by exact hP)
 ·have hi3 : ¬ (i : Int) < l.length := by omega
  rw [u7 (by omega)] at hP
  have hP2 : m = G := hP
  subst hP2
  repeat' (first | (refine Qr rfl ?_; try intro _ hK; try simp only [go_sem, *]) | refine Qh rfl ?_ | refine Qd rfl (by kernel_rfl) ?_ | (refine Qc rfl rfl ?_ ?_ <;> (intro hb; have hc := hb; try simp only [go_sem] at hc)) | refine q6 rfl ?_ | (refine Qb ?_ ?_; focus kernel_rfl) | ((with_reducible apply And.intro); focus omega) | (refine z8 hK ?_; clear hK; simp only [go_sem, *]) | simp only [z6, z7, go_sem, *])
  all_goals try contradiction
  (refine ⟨[_], [], [], ⟨rfl, trivial⟩, ?_⟩; simp only [go_sem, *])
end Go.Abs

namespace Go.Abs
open Go Go.Proofs Tryz
attribute [local irreducible] y6 Hold x8
def zRv (s : Story) (R : AV) : Prop := if r9 s = 0 then zMi (H3 s) R else R = .tup [(⟨0, ⟨0, 0⟩⟩ : House).enc, iV 0, iV (r9 s)]
theorem zQn (s : Story) (hst : s.steps.length ≤ 4294967296) (hwl : ∀ w, w ∈ s.steps → w.length ≤ 4294967296) (hfl : s.facts.length ≤ 4294967296) (hpl : s.first.length ≤ 4294967296) (R : AV) (hR : zRv s R) :
  zLp prog 74 [s.enc] [] R [] := by
 unfold zRv at hR
 have s1 := zNX s hst hwl hfl hpl (r9 s) rfl
 by_cases e : r9 s = 0
 ·have o := C2 e
  have v := o.first
  have hct := v.count
  have sa := zNW s o
  have sO := zLa s.first (by have := v.len; omega) (fun l hl => by have := (v.rows l hl).len; omega) (by omega)
  have hl := H0 o.steps (fun w hw => (o.ways w hw).2.1)
  have hsm : ∀ t, t ∈ r5 s → ∀ x, x ∈ q9 s.first → (t.now x).length ≤ 1000 := fun t hm x hx => by have := (zDU v t hm).small o.steps hx; omega
  rw [if_pos e] at hR
  rw [e] at s1
  obtain ⟨B, M, hBM⟩ : ∃ B M, zNF (T7 s) 0 (-1) (r5 s).length = (B, M) := ⟨_, _, rfl⟩
  have hres := zPd s B M hBM
  have h0 : zNF ((T7 s).drop 0) 0 (-1) (r5 s).length = (B, M) := hBM
  have hgl : (T7 s).length = (q9 s.first).length := by simp [T7]
  have hgd : ∀ k, k < (q9 s.first).length → (T7 s).getD k default = o8 (r5 s) ((q9 s.first).getD k default) := fun k hk => by simp [T7, List.getD, hk]
  have sg := fun k (hk : k < (q9 s.first).length) => zQz s.first (r5 s) k hk (by omega) (fun t ht => hsm t ht _ (w8 hk))
  clear hBM e hst hwl hfl hpl hsm
  generalize T7 s = G at *
  generalize r5 s = L at *
  generalize H3 s = AK at *
  generalize hHd : q9 s.first = H at *
  have hw1 : IntKind.i64.wrap (-1) = (-1 : Int) := wrap_i64 (by omega) (by omega)
  refine q8 func74 rfl (fun E hE => ?_); simp only [go_sem, ntmps74]
  repeat' (first | (refine Qr rfl ?_; try intro _ hK; try simp only [go_sem, *]) | refine Qh rfl ?_ | (refine Qc rfl rfl ?_ ?_ <;> (intro hb; have hc := hb; try simp only [go_sem] at hc)) | refine q6 rfl ?_ | ((first | refine y4 (s1) ?_ | refine y4 (sa) ?_); simp only [go_sem, *]) | (refine s8 (sO) ?_; simp only [go_sem, *]) | ((with_reducible apply And.intro); focus omega) | (refine z8 hK ?_; clear hK; simp only [go_sem, *]) | simp only [z6, z7, go_sem, *])
  all_goals try contradiction
  clear s1 sa sO hw1
  refine O6 rfl (H.length) (fun k (b : Int) (m : Nat) => zNF (G.drop k) k b m = (B, M) ∧ m ≤ L.length) 47 (fun k b m => [(10, iV k), (9, iV m), (8, iV b), (7, Q3 H), (6, .list (L.map (Truth.encR s.first))), (2, .ptr 0 0)]) (fun k b m => [.box [iV 0, iV 0, iV 0]]) [some 1] [2] (-1) (L.length) (by exact ⟨h0, Nat.le_refl _⟩) ?_; intro k b m hk hP
  clear h0
  obtain ⟨hP, hml⟩ := hP
  by_cases hk : k < H.length
  ·have hk3 : (k : Int) < H.length := by omega
   have hg := hgd k hk
   have sg1 := sg k hk
   have hGl := zBo L (H.getD k default)
   have hyes := zPc (g := G) (i := k) (m := m) (b := b) (by omega)
   have hno := zPb (g := G) (i := k) (m := m) (b := b) (by omega)
   rw [hg] at hyes hno
   generalize o8 L (H.getD k default) = gk at *
   clear sg hgd hg hR hres
   by_cases c : gk < m
   ·have c3 : (gk : Int) < m := by omega
    rw [hyes c] at hP
    clear hyes hno
    repeat' (first | (refine Qr rfl ?_; try intro _ hK; try simp only [go_sem, *]) | refine Qh rfl ?_ | (refine Qc rfl rfl ?_ ?_ <;> (intro hb; have hc := hb; try simp only [go_sem] at hc)) | refine q6 rfl ?_ | (refine y4 (sg1) ?_; simp only [go_sem, *]) | ((with_reducible apply And.intro); focus omega) | (refine z8 hK ?_; clear hK; simp only [go_sem, *]) | simp only [z6, z7, go_sem, *])
    all_goals try contradiction
    exact Z2 (i' := k + 1) [some 0] [] ((k : Int)) (gk) (by exact ⟨hP, by omega⟩)
   ·have c3 : ¬ (gk : Int) < m := by omega
    rw [hno c] at hP
    clear hyes hno
    repeat' (first | (refine Qr rfl ?_; try intro _ hK; try simp only [go_sem, *]) | refine Qh rfl ?_ | (refine Qc rfl rfl ?_ ?_ <;> (intro hb; have hc := hb; try simp only [go_sem] at hc)) | refine q6 rfl ?_ | (refine y4 (sg1) ?_; simp only [go_sem, *]) | ((with_reducible apply And.intro); focus omega) | (refine z8 hK ?_; clear hK; simp only [go_sem, *]) | simp only [z6, z7, go_sem, *])
    all_goals try contradiction
    exact Z2 (i' := k + 1) [some 0] [] (b) (m) (by exact ⟨hP, hml⟩)
  ·have hk3 : ¬ (k : Int) < H.length := by omega
   rw [u7 (by omega), zNF] at hP
   injection hP with e1 e2
   subst e1 e2
   clear sg hgd
   rcases hres with ⟨rfl, rfl⟩ | ⟨hb0, hbl, rfl⟩
   ·have c : (-1 : Int) < 0 := by decide
    have hR2 := hR
    unfold zMi at hR2
    clear hR
    subst hR2
    repeat' (first | (refine Qr rfl ?_; try intro _ hK; try simp only [go_sem, *]) | refine Qh rfl ?_ | (refine Qc rfl rfl ?_ ?_ <;> (intro hb; have hc := hb; try simp only [go_sem] at hc)) | refine q6 rfl ?_ | ((with_reducible apply And.intro); focus omega) | (refine z8 hK ?_; clear hK; simp only [go_sem, *]) | simp only [z6, z7, go_sem, *])
    all_goals try contradiction
    refine ⟨[.agg [iV 0, iV 0, iV 0], iV 0, iV 11], [], [], ⟨(by simp only [u1, go_sem]), rfl, rfl, trivial⟩, ?_⟩; simp only [go_sem, *]
   ·obtain ⟨n, rfl⟩ : ∃ n : Nat, b = n := ⟨b.toNat, by omega⟩
    rw [Int.toNat_natCast] at hbl hR
    have c : ¬ ((n : Nat) : Int) < 0 := by omega
    have hR2 := hR
    unfold zMi at hR2
    clear hR
    subst hR2
    repeat' (first | (refine Qr rfl ?_; try intro _ hK; try simp only [go_sem, *]) | refine Qh rfl ?_ | (refine Qc rfl rfl ?_ ?_ <;> (intro hb; have hc := hb; try simp only [go_sem] at hc)) | refine q6 rfl ?_ | ((with_reducible apply And.intro); focus omega) | (refine z8 hK ?_; clear hK; simp only [go_sem, *]) | simp only [z6, z7, go_sem, *])
    all_goals try contradiction
    refine ⟨[(H.getD n default).enc, iV (m : Nat), iV 0], [], [], ⟨(by simp only [u1, go_sem]), rfl, rfl, trivial⟩, ?_⟩; simp only [go_sem, *]
 ·rw [if_neg e] at hR
  have e2 : (r9 s != 0) = true := by simpa using e
  clear e
  generalize r9 s = k at *
  subst hR
  refine q8 func74 rfl (fun E hE => ?_); simp only [go_sem, ntmps74]
  repeat' (first | (refine Qr rfl ?_; try intro _ hK; try simp only [go_sem, *]) | refine Qh rfl ?_ | (refine Qc rfl rfl ?_ ?_ <;> (intro hb; have hc := hb; try simp only [go_sem] at hc)) | refine q6 rfl ?_ | (refine y4 (s1) ?_; simp only [go_sem, *]) | ((with_reducible apply And.intro); focus omega) | (refine z8 hK ?_; clear hK; simp only [go_sem, *]) | simp only [z6, z7, go_sem, *])
  all_goals try contradiction
  refine ⟨[.agg [iV 0, iV 0, iV 0], iV 0, iV k], [], [], ⟨(by simp only [u1, go_sem]), rfl, rfl, trivial⟩, ?_⟩; simp only [go_sem, *]
theorem zQX (s : Story) (hst : s.steps.length ≤ 4294967296) (hwl : ∀ w, w ∈ s.steps → w.length ≤ 4294967296) (hfl : s.facts.length ≤ 4294967296) (hpl : s.first.length ≤ 4294967296) (R : AV) (hR : zRv s R) :
  zLp prog 46 [s.enc] [] R [] := by
 unfold zRv at hR
 by_cases e : r9 s = 0
 ·rw [if_pos e] at hR
  exact zHD s e R hR
 ·rw [if_neg e] at hR
  have sa := zLW s hst hwl hfl hpl e
  have e2 : (r9 s != 0) = true := by simpa using e
  clear e
  generalize r9 s = k at *
  subst hR
  refine q8 func46 rfl (fun E hE => ?_); simp only [go_sem, ntmps46]
  repeat' (first | (refine Qr rfl ?_; try intro _ hK; try simp only [go_sem, *]) | (refine Qi rfl rfl rfl rfl ?_ ?_ <;> (intro hb; (try intro _ hK); have hc := hb; try simp only [go_sem] at hc; simp only [go_sem, *])) | refine Qh rfl ?_ | refine Qd rfl (by kernel_rfl) ?_ | (refine Qc rfl rfl ?_ ?_ <;> (intro hb; have hc := hb; try simp only [go_sem] at hc)) | refine q6 rfl ?_ | (refine Qb ?_ ?_; focus kernel_rfl) | (refine y4 (sa) ?_; simp only [go_sem, *]) | ((with_reducible apply And.intro); focus omega) | (refine z8 hK ?_; clear hK; simp only [go_sem, *]) | simp only [z6, z7, go_sem, *])
  all_goals try contradiction
  refine ⟨[.agg [iV 0, iV 0, iV 0], iV 0, iV k], [], [], ⟨(by simp only [u1, go_sem]), rfl, rfl, trivial⟩, ?_⟩; simp only [go_sem, *]
end Go.Abs

namespace Go.Abs
open Go Go.Proofs Tryz
attribute [local irreducible] y6 Hold x8
def zRs (n : Nat) : List Int := (List.range n).map fun k : Nat => (k : Int)
theorem zPW (n : Nat) : zRs (n + 1) = zRs n ++ [(n : Int)] := by simp [zRs, List.range_succ]
theorem zPU (n : Nat) : (zRs n).length = n := by simp [zRs]
theorem zPV {n : Nat} {k : Int} (h : k ∈ zRs n) : 0 ≤ k ∧ k < n := by
 obtain ⟨j, hj, rfl⟩ := List.mem_map.1 h
 rw [List.mem_range] at hj
 omega
theorem zPT (hs : List House) : zM6 hs (zRs hs.length) = hs := by
 apply List.ext_getElem
 ·simp [zM6, zRs]
 ·intro i h1 h2
  simp [zM6, zRs, List.getD, h2]
def zRz (j : Nat) (acc : List Int) : Prop := acc = zRs j
def DueR (hs : List House) (l : List Int) (j : Nat) (acc : List House) : Prop := acc = zM6 hs (l.take j)
theorem DueR.next {hs : List House} {l : List Int} {j n : Nat} {acc : List House} (h : DueR hs l j acc) (hj : j < l.length) (hn : l.getD j default = n) : DueR hs l (j + 1) (acc ++ [hs.getD n default]) := by
 unfold DueR at *
 rw [Z8 hj, hn, h]
 simp [zM6]
theorem DueR.len {hs : List House} {l : List Int} {j : Nat} {acc : List House} (h : DueR hs l j acc) : acc.length ≤ l.length := by
 unfold DueR at h
 rw [h, zM6, List.length_map, List.length_take]; omega
theorem zQu (s : Story) (h : r9 s = 0) (hne : r5 s ≠ []) (M : Nat) (out : List House) (hM : Least (zNA (r5 s) (q9 s.first)) (q9 s.first) M out) :
  zLp prog 75 [s.enc] [] (.tup [.list (out.map House.enc), iV 0]) [] := by
 have o := C2 h
 have v := o.first
 have hct := v.count
 have hl := H0 o.steps (fun w hw => (o.ways w hw).2.1)
 have s1 := zNX s (by have := o.steps; omega) (fun w hw => by have := (o.ways w hw).2.1; omega) (by have := o.facts; omega) (by have := v.len; omega) (r9 s) rfl
 rw [h] at s1
 have sa := zNW s o
 have sO := zLa s.first (by have := v.len; omega) (fun l hl => by have := (v.rows l hl).len; omega) (by omega)
 have hsm : ∀ t, t ∈ r5 s → ∀ x, x ∈ q9 s.first → (t.now x).length ≤ 1000 := fun t hm x hx => by have := (zDU v t hm).small o.steps hx; omega
 have hl0 : (((r5 s).length : Int) == 0) = false := by
  have := List.length_pos_iff.2 hne
  rw [beq_eq_false_iff_ne]; omega
 have sS := fun ls al hw hll haw hal hac => zQ0 s.first (r5 s) ls al (by omega) hw hll haw hal hac hsm
 clear hne h hsm
 generalize r5 s = L at *
 generalize hHd : q9 s.first = H at *
 have hMn := hM.le
 refine q8 func75 rfl (fun E hE => ?_); simp only [go_sem, ntmps75]
 repeat' (first | (refine Qr rfl ?_; try intro _ hK; try simp only [go_sem, *]) | refine Qh rfl ?_ | (refine Qc rfl rfl ?_ ?_ <;> (intro hb; have hc := hb; try simp only [go_sem] at hc)) | refine q6 rfl ?_ | ((first | refine y4 (s1) ?_ | refine y4 (sa) ?_); simp only [go_sem, *]) | (refine s8 (sO) ?_; simp only [go_sem, *]) | ((with_reducible apply And.intro); focus omega) | (refine z8 hK ?_; clear hK; simp only [go_sem, *]) | simp only [z6, z7, go_sem, *])
 all_goals try contradiction
 clear s1 sa sO hl0
 refine u4 rfl (H.length) (fun j (al : List Int) => zRz j al) 80 (fun j al => [(8, iV j), (7, .own 0 1 0 al.length), (6, Q3 H), (5, .list (L.map (Truth.encR s.first)))]) (fun j al => [.row 1 (al.map iV)]) [none] [1] ([]) (by rfl) ?_; intro j al hj hA
 have e2 : al.length = j := by rw [hA, zPU]
 by_cases hj : j < H.length
 ·have hj3 : (j : Int) < H.length := by omega
  have e : zRz (j + 1) (al ++ [(j : Int)]) := by rw [hA, zRz, zPW]
  have hal : al.length ≤ 1000 := by omega
  clear sS hM e2
  repeat' (first | (refine Qr rfl ?_; try intro _ hK; try simp only [go_sem, *]) | refine Qh rfl ?_ | (refine Qc rfl rfl ?_ ?_ <;> (intro hb; have hc := hb; try simp only [go_sem] at hc)) | refine q6 rfl ?_ | ((with_reducible apply And.intro); focus omega) | (refine z8 hK ?_; clear hK; simp only [go_sem, *]) | simp only [z6, z7, go_sem, *])
  all_goals try contradiction
  exact w6 (i' := j + 1) [some 2] [] (al ++ [(j : Int)]) (by exact e)
 have hj3 : ¬ (j : Int) < H.length := by omega
 obtain rfl : j = H.length := by omega
 have hac : zM6 H al = H := by rw [hA, zPT]
 have sS1 := fun ls hw hll => sS ls al hw hll (fun k hk => by rw [hA] at hk; exact zPV hk) (by omega) hac
 have hal : al.length ≤ 1000 := by omega
 clear hA hac sS e2
 repeat' (first | (refine Qr rfl ?_; try intro _ hK; try simp only [go_sem, *]) | refine Qh rfl ?_ | (refine Qc rfl rfl ?_ ?_ <;> (intro hb; have hc := hb; try simp only [go_sem] at hc)) | refine q6 rfl ?_ | ((with_reducible apply And.intro); focus omega) | (refine z8 hK ?_; clear hK; simp only [go_sem, *]) | simp only [z6, z7, go_sem, *])
 all_goals try contradiction
 refine u3 rfl (H.length + 1) (fun k => k ≤ M) 80 (fun k => [(10, iV k), (9, .raw (.slice none 0 0)), (7, j4 al), (6, Q3 H), (5, .list (L.map (Truth.encR s.first)))]) (fun k => []) [] [0] (by exact Nat.zero_le _) ?_; intro k hk hP
 by_cases hk : k ≤ H.length
 ·have hk3 : (k : Int) ≤ H.length := by omega
  have sP : zLp prog 121 [iV 0, iV H.length, iV k] [] (.list ((zM7 H.length k H.length).map j4)) [] := zO9 H.length (by omega) k 0 (by omega) (Nat.zero_le _)
  have hWb : ∀ l, l ∈ zM7 H.length k H.length → l.length = k ∧ ∀ j, j ∈ l → 0 ≤ j ∧ j < H.length := fun l hl => zNi _ _ _ l (Nat.le_refl _) hl
  have hWl := zNz (n := H.length) (r := H.length) (m := k) (by omega)
  have hyes := fun i => hM.yes (i := i) hP
  have hno := hM.no hP
  generalize zM7 H.length k H.length = W at *
  repeat' (first | (refine Qr rfl ?_; try intro _ hK; try simp only [go_sem, *]) | refine Qh rfl ?_ | (refine Qc rfl rfl ?_ ?_ <;> (intro hb; have hc := hb; try simp only [go_sem] at hc)) | refine q6 rfl ?_ | (refine y4 (sP) ?_; simp only [go_sem, *]) | ((with_reducible apply And.intro); focus omega) | (refine z8 hK ?_; clear hK; simp only [go_sem, *]) | simp only [z6, z7, go_sem, *])
  all_goals try contradiction
  clear sP hM
  refine u3 rfl (W.length) (fun i => ∀ j, j < i → zNA L H (zM6 H (W.getD j default)) = false) 80 (fun i => [(12, iV i), (11, .list (W.map j4)), (10, iV k), (9, .raw (.slice none 0 0)), (7, j4 al), (6, Q3 H), (5, .list (L.map (Truth.encR s.first)))]) (fun i => []) [] [] (by exact fun j hj => by omega) ?_; intro i hi hQ
  by_cases hi : i < W.length
  ·have hi3 : (i : Int) < W.length := by omega
   obtain ⟨hwl, hwb⟩ := hWb _ (w8 hi)
   have hy := hyes i hi hQ
   have sS2 := sS1 (W.getD i default) hwb (by omega)
   clear hyes hno hWb sS1
   cases hF : zNA L H (zM6 H (W.getD i default)) with
   | false =>
    rw [hF] at sS2
    clear hy
    repeat' (first | (refine Qr rfl ?_; try intro _ hK; try simp only [go_sem, *]) | refine Qh rfl ?_ | (refine Qc rfl rfl ?_ ?_ <;> (intro hb; have hc := hb; try simp only [go_sem] at hc)) | refine q6 rfl ?_ | (refine y4 (sS2) ?_; simp only [go_sem, *]) | ((with_reducible apply And.intro); focus omega) | (refine z8 hK ?_; clear hK; simp only [go_sem, *]) | simp only [z6, z7, go_sem, *])
    all_goals try contradiction
    exact u2 (i' := i + 1) [] [] (by intro j hj; rcases Nat.lt_or_ge j i with h | h; exact hQ j h; obtain rfl : j = i := (by omega); exact hF)
   | true =>
    rw [hF] at sS2
    have ho := hy hF
    clear hy hQ hF
    subst ho
    generalize hls : W.getD i default = ls at *
    repeat' (first | (refine Qr rfl ?_; try intro _ hK; try simp only [go_sem, *]) | refine Qh rfl ?_ | (refine Qc rfl rfl ?_ ?_ <;> (intro hb; have hc := hb; try simp only [go_sem] at hc)) | refine q6 rfl ?_ | (refine y4 (sS2) ?_; simp only [go_sem, *]) | ((with_reducible apply And.intro); focus omega) | (refine z8 hK ?_; clear hK; simp only [go_sem, *]) | simp only [z6, z7, go_sem, *])
    all_goals try contradiction
    clear sS2
    refine u4 rfl (k) (fun j (acc : List House) => DueR H ls j acc) 80 (fun j acc => [(13, iV j), (9, .own 0 3 0 acc.length), (12, iV i), (11, .list (W.map j4)), (10, iV k), (6, Q3 H)]) (fun j acc => [.row 3 (acc.map House.enc)]) [none] [] ([]) (by rfl) ?_; intro j acc hj hD
    have hcj := hD.len
    by_cases hj : j < k
    ·have hj3 : (j : Int) < k := by omega
     obtain ⟨hz0, hz1⟩ := hwb _ (w8 (l := ls) (i := j) (by omega))
     obtain ⟨n, hn⟩ : ∃ n : Nat, ls.getD j default = n := ⟨(ls.getD j default).toNat, by omega⟩
     have hnH : n < H.length := by omega
     have hN := hD.next (by omega) hn
     clear hz0 hz1
     repeat' (first | (refine Qr rfl ?_; try intro _ hK; try simp only [go_sem, *]) | refine Qh rfl ?_ | (refine Qc rfl rfl ?_ ?_ <;> (intro hb; have hc := hb; try simp only [go_sem] at hc)) | refine q6 rfl ?_ | ((with_reducible apply And.intro); focus omega) | (refine z8 hK ?_; clear hK; simp only [go_sem, *]) | simp only [z6, z7, go_sem, *])
     all_goals try contradiction
     exact w6 (i' := j + 1) [some 2] [] (acc ++ [H.getD n default]) (by exact hN)
    ·have hj3 : ¬ (j : Int) < k := by omega
     have e3 : acc = zM6 H ls := by rw [hD, List.take_of_length_le (by omega)]
     rw [← e3]
     clear e3
     repeat' (first | (refine Qr rfl ?_; try intro _ hK; try simp only [go_sem, *]) | refine Qh rfl ?_ | (refine Qc rfl rfl ?_ ?_ <;> (intro hb; have hc := hb; try simp only [go_sem] at hc)) | refine q6 rfl ?_ | ((with_reducible apply And.intro); focus omega) | (refine z8 hK ?_; clear hK; simp only [go_sem, *]) | simp only [z6, z7, go_sem, *])
     all_goals try contradiction
     refine ⟨[_, _], [], [0], ⟨rfl, rfl, trivial⟩, ?_⟩
     simp only [go_sem, *]
  ·have hi3 : ¬ (i : Int) < W.length := by omega
   have hno1 := hno (fun j hj => hQ j (by omega))
   clear hyes hno hWb hQ
   repeat' (first | (refine Qr rfl ?_; try intro _ hK; try simp only [go_sem, *]) | refine Qh rfl ?_ | (refine Qc rfl rfl ?_ ?_ <;> (intro hb; have hc := hb; try simp only [go_sem] at hc)) | refine q6 rfl ?_ | ((with_reducible apply And.intro); focus omega) | (refine z8 hK ?_; clear hK; simp only [go_sem, *]) | simp only [z6, z7, go_sem, *])
   all_goals try contradiction
   exact u2 (i' := k + 1) [] [] (by exact hno1)
 ·exfalso; omega
end Go.Abs

namespace Go.Abs
open Go Go.Proofs Tryz
attribute [local irreducible] y6 Hold x8
theorem zP4 (s : Story) : (zNI s).length ≤ 1000 := by
 unfold zNI
 split
 ·rename_i e
  split
  ·exact Nat.zero_le _
  ·have := (C2 e).first.count
   have := List.length_filter_le (zM8 (r5 s)) (q9 s.first)
   omega
 ·exact Nat.zero_le _
theorem zQe (s : Story) (hst : s.steps.length ≤ 4294967296) (hwl : ∀ w, w ∈ s.steps → w.length ≤ 4294967296) (hfl : s.facts.length ≤ 4294967296) (hpl : s.first.length ≤ 4294967296) :
  ∃ (q : List House) (e : Int), q.length ≤ 1000 ∧ zLp prog 69 [s.enc] [] (.tup [.list (q.map House.enc), iV e]) [] ∧ zLp prog 75 [s.enc] [] (.tup [.list (q.map House.enc), iV e]) [] := by
 have s1 := zNX s hst hwl hfl hpl (r9 s) rfl
 by_cases e : r9 s = 0
 ·by_cases hne : r5 s = []
  ·refine ⟨[], 11, Nat.zero_le _, zPA s e hne, ?_⟩
   have sa := zNW s (C2 e)
   rw [hne] at sa
   rw [e] at s1
   clear e hne
   refine q8 func75 rfl (fun E hE => ?_); simp only [go_sem, ntmps75]
   repeat' (first | (refine Qr rfl ?_; try intro _ hK; try simp only [go_sem, *]) | refine Qh rfl ?_ | (refine Qc rfl rfl ?_ ?_ <;> (intro hb; have hc := hb; try simp only [go_sem] at hc)) | refine q6 rfl ?_ | ((first | refine y4 (s1) ?_ | refine y4 (sa) ?_); simp only [go_sem, *]) | ((with_reducible apply And.intro); focus omega) | (refine z8 hK ?_; clear hK; simp only [go_sem, *]) | simp only [z6, z7, go_sem, *])
   all_goals try contradiction
   (refine ⟨[_, _], [], [], ⟨rfl, rfl, trivial⟩, ?_⟩; simp only [go_sem, *])
  ·obtain ⟨M, out, hM⟩ := zOm (zNA (r5 s) (q9 s.first)) (q9 s.first) (zO3 _ _)
   refine ⟨out, 0, ?_, zPB s e hne M out hM.hit hM.min hM.le, zQu s e hne M out hM⟩
   have h1 := zN6 (zNA (r5 s) (q9 s.first)) (q9 s.first) (q9 s.first).length M []
   rw [hM.hit] at h1
   have h2 := hM.le
   have := (C2 e).first.count
   simp only [List.length_nil] at h1
   omega
 ·refine ⟨[], r9 s, Nat.zero_le _, ?_, ?_⟩
  ·have sa := zLW s hst hwl hfl hpl e
   have e2 : (r9 s != 0) = true := by simpa using e
   clear e s1
   generalize r9 s = k at *
   refine q8 func69 rfl (fun E hE => ?_); simp only [go_sem, ntmps69]
   repeat' (first | (refine Qr rfl ?_; try intro _ hK; try simp only [go_sem, *]) | refine Qh rfl ?_ | (refine Qc rfl rfl ?_ ?_ <;> (intro hb; have hc := hb; try simp only [go_sem] at hc)) | refine q6 rfl ?_ | (refine y4 (sa) ?_; simp only [go_sem, *]) | ((with_reducible apply And.intro); focus omega) | (refine z8 hK ?_; clear hK; simp only [go_sem, *]) | simp only [z6, z7, go_sem, *])
   all_goals try contradiction
   (refine ⟨[_, _], [], [], ⟨rfl, rfl, trivial⟩, ?_⟩; simp only [go_sem, *])
  ·have e2 : (r9 s != 0) = true := by simpa using e
   clear e
   generalize r9 s = k at *
   refine q8 func75 rfl (fun E hE => ?_); simp only [go_sem, ntmps75]
   repeat' (first | (refine Qr rfl ?_; try intro _ hK; try simp only [go_sem, *]) | refine Qh rfl ?_ | (refine Qc rfl rfl ?_ ?_ <;> (intro hb; have hc := hb; try simp only [go_sem] at hc)) | refine q6 rfl ?_ | (refine y4 (s1) ?_; simp only [go_sem, *]) | ((with_reducible apply And.intro); focus omega) | (refine z8 hK ?_; clear hK; simp only [go_sem, *]) | simp only [z6, z7, go_sem, *])
   all_goals try contradiction
   (refine ⟨[_, _], [], [], ⟨rfl, rfl, trivial⟩, ?_⟩; simp only [go_sem, *])
theorem zQY (s : Story) (hst : s.steps.length ≤ 4294967296) (hwl : ∀ w, w ∈ s.steps → w.length ≤ 4294967296) (hfl : s.facts.length ≤ 4294967296) (hpl : s.first.length ≤ 4294967296) :
  ∃ (h : House) (n e : Int), zLp prog 46 [s.enc] [] (.tup [h.enc, iV n, iV e]) [] ∧ zLp prog 74 [s.enc] [] (.tup [h.enc, iV n, iV e]) [] := by
 have key : ∀ (h : House) (n e : Int), zRv s (.tup [h.enc, iV n, iV e]) → ∃ (h : House) (n e : Int), zLp prog 46 [s.enc] [] (.tup [h.enc, iV n, iV e]) [] ∧ zLp prog 74 [s.enc] [] (.tup [h.enc, iV n, iV e]) [] :=
  fun h n e hR => ⟨h, n, e, zQX s hst hwl hfl hpl _ hR, zQn s hst hwl hfl hpl _ hR⟩
 by_cases e : r9 s = 0
 ·cases hA : H3 s with
  | none => exact key ⟨0, ⟨0, 0⟩⟩ 0 11 (by unfold zRv; rw [if_pos e, hA]; rfl)
  | some x => exact key x.1 x.2 0 (by unfold zRv; rw [if_pos e, hA]; rfl)
 ·exact key ⟨0, ⟨0, 0⟩⟩ 0 (r9 s) (by unfold zRv; rw [if_neg e])
theorem zRe (s : Story) (nums : List Int) (hb : Bound 1048576 s) (h : nums.length ≤ 1048576) : zLp prog 18 [s.enc, j4 nums] [] (bV true) [] := by
 have sw := zLc
 have s0 := zPI s (by have := hb.first.len; omega) (zNM s) rfl
 by_cases hwd : zNM s = true
 ·rw [hwd] at s0
  clear hwd
  refine q8 func18 rfl (fun E hE => ?_); simp only [go_sem, ntmps18]
  repeat' (first | (refine Qr rfl ?_; try intro _ hK; try simp only [go_sem, *]) | (refine Qi rfl rfl rfl rfl ?_ ?_ <;> (intro hb; (try intro _ hK); have hc := hb; try simp only [go_sem] at hc; simp only [go_sem, *])) | refine Qh rfl ?_ | refine Qd rfl (by kernel_rfl) ?_ | (refine Qc rfl rfl ?_ ?_ <;> (intro hb; have hc := hb; try simp only [go_sem] at hc)) | refine q6 rfl ?_ | (refine Qb ?_ ?_; focus kernel_rfl) | ((first | refine y4 (s0) ?_ | refine y4 (sw) ?_); simp only [go_sem, *]) | ((with_reducible apply And.intro); focus omega) | (refine z8 hK ?_; clear hK; simp only [go_sem, *]) | simp only [z6, z7, go_sem, *])
  all_goals try contradiction
  (refine ⟨[_], [], [], ⟨rfl, trivial⟩, ?_⟩; simp only [go_sem, *])
 have hwd : zNM s = false := by simpa using hwd
 rw [hwd] at s0
 clear hwd
 have s1 := zLT nums
 have s2 := zLV (zCU nums) 4 2 3 1 (show nums.length ≤ 4294967296 by omega) (by omega) (by omega) (by omega) (by omega)
 have sm := zLf (d := zCU nums) (houses := 4) (steps := 2) (ways := 3) (facts := 1) (by omega) (by omega) (by omega) (by omega)
 have hdl : (R0 (zCU nums) 4 2 3 1).2.list.length ≤ 4294967296 := by rw [zLe]; show nums.length ≤ _; omega
 generalize R0 (zCU nums) 4 2 3 1 = S at *
 obtain ⟨a, d1⟩ := S
 simp only at s2 sm hdl
 have s3 := zLV d1 3 3 2 0 hdl (by omega) (by omega) (by omega) (by omega)
 have sn := zLf (d := d1) (houses := 3) (steps := 3) (ways := 2) (facts := 0) (by omega) (by omega) (by omega) (by omega)
 generalize R0 d1 3 3 2 0 = S at *
 obtain ⟨b, d2⟩ := S
 simp only at s3 sn
 have ba := zOM sm.told
 have bb := zOM sn.told
 obtain ⟨SS, hSS⟩ : ∃ SS : List Story, SS = [s, a, b] := ⟨_, rfl⟩
 have hSl : SS.length = 3 := by rw [hSS]; rfl
 have hSa : ∀ x, x ∈ SS → Bound 1048576 x := fun x hx => by
  rw [hSS] at hx
  simp only [List.mem_cons, List.not_mem_nil, or_false] at hx
  rcases hx with rfl | rfl | rfl
  ·exact hb
  ·exact ba
  ·exact bb
 clear ba bb hb h hdl sm sn
 refine q8 func18 rfl (fun E hE => ?_); simp only [go_sem, ntmps18]
 repeat' (first | (refine Qr rfl ?_; try intro _ hK; try simp only [go_sem, *]) | (refine Qi rfl rfl rfl rfl ?_ ?_ <;> (intro hb; (try intro _ hK); have hc := hb; try simp only [go_sem] at hc; simp only [go_sem, *])) | refine Qh rfl ?_ | refine Qd rfl (by kernel_rfl) ?_ | (refine Qc rfl rfl ?_ ?_ <;> (intro hb; have hc := hb; try simp only [go_sem] at hc)) | refine q6 rfl ?_ | (with_reducible (show (∀ _ : AV, _ → _) ∧ _); refine And.intro ?_ ?_; (focus (intro y hy; first | (obtain ⟨z, _, rfl⟩ := List.mem_map.1 (hy); simp [go_sem]; done) | (obtain ⟨z, _, rfl⟩ := List.mem_map.1 (List.mem_of_mem_take hy); simp [go_sem]; done) | (obtain ⟨z, _, rfl⟩ := List.mem_map.1 (List.mem_of_mem_drop hy); simp [go_sem]; done) | (obtain ⟨z, _, rfl⟩ := List.mem_map.1 (List.mem_of_mem_drop (List.mem_of_mem_take hy)); simp [go_sem]; done)))) | (refine Qb ?_ ?_; focus kernel_rfl) | (refine y4 (s0) ?_; simp only [go_sem, *]) | (refine s8 (s1) ?_; simp only [go_sem, *]) | (refine y9 [1] [] (s2) (by simp) ?_ ?_ (by simp) (.inl rfl) ?_ ?_ ?_; (iterate 2 (focus (simp only [go_sem, *]; done))); (iterate 2 (focus (first | (simp; done) | (simp [go_sem]; done)))); simp only [go_sem, *]) | (refine y9 [1] [] (s3) (by simp) ?_ ?_ (by simp) (.inl rfl) ?_ ?_ ?_; (iterate 2 (focus (simp only [go_sem, *]; done))); (iterate 2 (focus (first | (simp; done) | (simp [go_sem]; done)))); simp only [go_sem, *]) | ((with_reducible apply And.intro); focus omega) | (refine z8 hK ?_; clear hK; simp only [go_sem, *]) | simp only [z6, z7, go_sem, *])
 all_goals try contradiction
 clear s0 s1 s2 s3
 refine u3 rfl (3) (fun i => NoP i) 131 (fun i => [(7, iV i), (6, .list (SS.map Story.enc))]) (fun i => []) [] [2] (by trivial) ?_; intro i hi hP
 clear hSS
 by_cases hi : i < 3
 ·have hi3 : (i : Int) < 3 := by omega
  have bx := hSa _ (w8 (l := SS) (i := i) (by omega))
  have b1 : (SS.getD i default).steps.length ≤ 4294967296 := by have := bx.steps; omega
  have b2 : ∀ w, w ∈ (SS.getD i default).steps → w.length ≤ 4294967296 := fun w hw => by have := bx.ways w hw; omega
  have b3 : (SS.getD i default).facts.length ≤ 4294967296 := by have := bx.facts; omega
  have b4 : (SS.getD i default).first.length ≤ 4294967296 := by have := bx.first.len; omega
  have sU := zO6 (SS.getD i default) bx.first.len bx.first.rows bx.ways bx.steps bx.facts
  have sL := zO8 _ b1 b2 b3 b4
  have sM := zQs _ b1 b2 b3 b4
  obtain ⟨x, n, g, sA, sB⟩ := zQY _ b1 b2 b3 b4
  obtain ⟨q, w, hq, sS, sT⟩ := zQe _ b1 b2 b3 b4
  have hl := zP4 (SS.getD i default)
  have q1 := zHN (zNI (SS.getD i default)) (zNI (SS.getD i default)) (by omega)
  have q2 := zHN q q (by omega)
  have q3 := zO7 (SS.getD i default) b4 (fun l hl => by have := bx.first.rows l hl; omega) b2 b1 b3
  simp only [decide_true] at q1 q2
  clear bx hSa b1 b2 b3 b4 hl
  generalize zNI (SS.getD i default) = LL at *
  generalize zNN (SS.getD i default) = k at *
  have ek : (k != k) = false := by simp
  have eg : (g != g) = false := by simp
  have ew : (w != w) = false := by simp
  have en : (n != n) = false := by simp
  repeat' (first | (refine Qr rfl ?_; try intro _ hK; try simp only [go_sem, *]) | (refine Qi rfl rfl rfl rfl ?_ ?_ <;> (intro hb; (try intro _ hK); have hc := hb; try simp only [go_sem] at hc; simp only [go_sem, *])) | refine Qh rfl ?_ | refine Qd rfl (by kernel_rfl) ?_ | (refine Qc rfl rfl ?_ ?_ <;> (intro hb; have hc := hb; try simp only [go_sem] at hc)) | refine q6 rfl ?_ | (refine Qb ?_ ?_; focus kernel_rfl) | ((first | refine y4 (sU) ?_ | refine y4 (sL) ?_ | refine y4 (sM) ?_ | refine y4 (sA) ?_ | refine y4 (sB) ?_ | refine y4 (sS) ?_ | refine y4 (sT) ?_ | refine y4 (q3) ?_); simp only [go_sem, *]) | (refine zD5 (q1) ?_ ?_; (focus (simp only [go_sem, *]; done)); simp only [go_sem, *]) | (refine zD5 (q2) ?_ ?_; (focus (simp only [go_sem, *]; done)); simp only [go_sem, *]) | ((with_reducible apply And.intro); focus omega) | (refine z8 hK ?_; clear hK; simp only [go_sem, *]) | simp only [z6, z7, go_sem, *])
  all_goals try contradiction
  exact u2 (i' := i + 1) [] [] (by trivial)
 ·have hi3 : ¬ (i : Int) < 3 := by omega
  repeat' (first | (refine Qr rfl ?_; try intro _ hK; try simp only [go_sem, *]) | (refine Qi rfl rfl rfl rfl ?_ ?_ <;> (intro hb; (try intro _ hK); have hc := hb; try simp only [go_sem] at hc; simp only [go_sem, *])) | refine Qh rfl ?_ | refine Qd rfl (by kernel_rfl) ?_ | (refine Qc rfl rfl ?_ ?_ <;> (intro hb; have hc := hb; try simp only [go_sem] at hc)) | refine q6 rfl ?_ | (refine Qb ?_ ?_; focus kernel_rfl) | (refine y4 (sw) ?_; simp only [go_sem, *]) | ((with_reducible apply And.intro); focus omega) | (refine z8 hK ?_; clear hK; simp only [go_sem, *]) | simp only [z6, z7, go_sem, *])
  all_goals try contradiction
  (refine ⟨[_], [], [], ⟨rfl, trivial⟩, ?_⟩; simp only [go_sem, *])
end Go.Abs

