/-
  WHAT THE PROOF STANDS ON, PART 5: contracts of the program's functions and the logic that they are proved in. No condition.
-/
import Derived.KernelRfl
import Derived.Test.YtoodnahaohmmkaaGreatDoorQAKL34
set_option maxRecDepth 100000
set_option maxHeartbeats 4000000
set_option linter.unnecessarySimpa false
set_option linter.unusedVariables false
set_option linter.unusedSimpArgs false
set_option linter.unusedSectionVars false
namespace Go.Abs
open Go Go.Proofs Tryz
attribute [local irreducible] q9 Hold y2
variable [Cur]
theorem zOO (k a b : Str) : zSx prog 232 [sV k, sV a, sV b] [] (.fn 247 [.ptr 0 0, .ptr 1 0, .ptr 2 0]) [.box [sV k], .box [sV a], .box [sV b]] := by
 refine z9 func232 rfl (fun E hE => ?_); simp only [go_sem, ntmps232]
 refine wk1 trivial ?_
 refine ⟨[_], [some 0, some 1, some 2], [], ⟨rfl, trivial⟩, ?_⟩
 simp only [go_sem, *]
theorem zOd (k : Str) (l : List Rule) : zSx prog 215 [sV k, x5 l] [] (.fn 231 [.ptr 0 0, .ptr 1 0]) [.box [x5 l], .box [sV k]] := by
 refine z9 func215 rfl (fun E hE => ?_); simp only [go_sem, ntmps215]
 refine wk1 trivial ?_
 refine ⟨[_], [some 1, some 0], [], ⟨rfl, trivial⟩, ?_⟩
 simp only [go_sem, *]
theorem zQK (D : ChainD) (chain : List Str) (U : UsesD) (S S' : CS) (s : Str) (hyG : U0 prog [sV s] (Z0 0 D chain S) (bV true) (Z0 0 D chain S')) : U0 prog [sV s] (M1 D chain U S) (bV true) (M1 D chain U S') := by
 refine A0 (L := zBk U.fnU) (env := [(3, .ptr 15 0), (2, .ptr 16 0), (25, .own 17 2 0 2), (27, iV U.j), (26, iV 2), (11, iV U.i), (10, iV U.l.length), (9, x5 U.l)]) (j := none) rfl rfl (fun E l hE => ?_)
 refine X2 rfl ?_
 simp only [zBk, V5, go_sem]
 repeat' (first | (refine Qr (ops := _ :: _) rfl ?_; try intro _ hK; try simp only [go_sem, *]) | (refine Qi rfl rfl rfl rfl ?_ ?_ <;> (intro hb; (try intro _ hK); have hc := hb; try simp only [go_sem] at hc; simp only [go_sem, *])) | (refine Qb ?_ ?_; focus kernel_rfl) | ((with_reducible apply And.intro); focus omega) | (refine z7 hK ?_; clear hK; simp only [go_sem, *]) | simp only [z6, z5, go_sem, *])
 refine l7 ?_
 refine ⟨by simp only [go_sem], ?_⟩
 refine C8 (id := 5) rfl ?_
 refine N4 rfl ?_
 refine zLz 2 rfl rfl rfl ?_
 simp only [List.take_succ_cons, List.take_zero, List.drop_succ_cons, List.drop_zero, go_sem]
 repeat' (first | (refine Qr (ops := _ :: _) rfl ?_; try intro _ hK; try simp only [go_sem, *]) | (refine Qi rfl rfl rfl rfl ?_ ?_ <;> (intro hb; (try intro _ hK); have hc := hb; try simp only [go_sem] at hc; simp only [go_sem, *])) | (refine Qb ?_ ?_; focus kernel_rfl) | ((with_reducible apply And.intro); focus omega) | (refine z7 hK ?_; clear hK; simp only [go_sem, *]) | simp only [z6, z5, go_sem, *])
 refine l7 ?_
 refine zJx rfl ?_
 refine ⟨by show 40 < 44; omega, ?_⟩
 simp only [go_sem]
 refine zBm [1, 2, 3, 4, 5, 6, 7, 8, 9, 10, 11, 12, 13, 14] [] hyG rfl rfl (by simp) (by simp only [go_sem]) (by simp only [go_sem]) (by simp) (.inl rfl) (by simp [go_sem]) (by simp [go_sem]) ?_
 simp only [go_sem]
 repeat' (first | (refine Qr (ops := _ :: _) rfl ?_; try intro _ hK; try simp only [go_sem, *]) | (refine Qi rfl rfl rfl rfl ?_ ?_ <;> (intro hb; (try intro _ hK); have hc := hb; try simp only [go_sem] at hc; simp only [go_sem, *])) | (refine Qb ?_ ?_; focus kernel_rfl) | ((with_reducible apply And.intro); focus omega) | (refine z7 hK ?_; clear hK; simp only [go_sem, *]) | simp only [z6, z5, go_sem, *])
 refine l7 ?_
 refine C9 (t := false) rfl (by simp only [go_sem]) (fun h => by cases h) (fun _ => ?_)
 refine zBT rfl ?_
 simp only [z5, go_sem]
 refine ⟨rfl, [some 0, some 1, some 2, some 3, some 4, some 5, some 6, some 7, some 8, some 9, some 10, some 11, some 12, some 13, some 14, some 15, some 16, some 17], [], ?_⟩
 simp only [go_sem, *]
theorem zPr {l : List Rule} {k : Str} {i : Nat} (h : i < l.length) : Q3 (l.drop i) k = (X3 k (l.getD i default).src (l.getD i default).dst ++ X3 k (l.getD i default).dst (l.getD i default).src) ++ Q3 (l.drop (i + 1)) k := by
 rw [u4 h]; rfl
def C3 (k u v : Str) : Nat → List Str
 | 0 => X3 k u v ++ X3 k v u
 | 1 => X3 k v u
 | _ => []
theorem zLn (k u v : Str) {j : Nat} (h : j < 2) : ∃ x y : Str, ([.agg [sV u, sV v], .agg [sV v, sV u]] : List AV).getD j .any = .agg [sV x, sV y] ∧ C3 k u v j = X3 k x y ++ C3 k u v (j + 1) ∧ (x = u ∧ y = v ∨ x = v ∧ y = u) := by
 rcases (by omega : j = 0 ∨ j = 1) with rfl | rfl
 ·exact ⟨u, v, rfl, rfl, .inl ⟨rfl, rfl⟩⟩
 ·exact ⟨v, u, rfl, by simp [C3], .inr ⟨rfl, rfl⟩⟩
theorem zEc {zTD : CS → Prop} {step : CS → Str → CS} (hg : ∀ S s, zTD S → v7 s 1 12 = true → zTD (step S s)) : ∀ (L : List Str) (S : CS), (∀ s, s ∈ L → v7 s 1 12 = true) → zTD S → zTD (L.foldl step S)
 | [], _, _, h => h
 | x :: r, S, hl, h => zEc hg r _ (fun s hs => hl s (by simp [hs])) (hg S x h (hl x (by simp)))
theorem zL5 {k a b s : Str} (h : s ∈ X3 k a b) : v7 s 1 12 = true := by
 obtain ⟨_, _, _, h, _⟩ := mem_replacedN.1 h; exact h
theorem zOe (D : ChainD) (chain : List Str) (zTD : CS → Prop) (step : CS → Str → CS)
    (hy : ∀ S s, zTD S → v7 s 1 12 = true → U0 prog [sV s] (Z0 0 D chain S) (bV true) (Z0 0 D chain (step S s))) (hg : ∀ S s, zTD S → v7 s 1 12 = true → zTD (step S s))
    (k : Str) (l : List Rule) (hk1 : k.length ≤ 1000) (hl : l.length ≤ 1000) (hr : ∀ r, r ∈ l → r.src.length ≤ 1000 ∧ r.dst.length ≤ 1000) (S0 : CS) (hS : zTD S0) :
    zSx prog 231 [.yld 0, .ptr 14 0, .ptr 15 0] (Z0 0 D chain S0 ++ [.box [x5 l], .box [sV k]]) (.tup []) (Z0 0 D chain ((Q3 l k).foldl step S0) ++ [.box [x5 l], .box [sV k]]) := by
  obtain ⟨T, hT⟩ : ∃ T, (Q3 l k).foldl step S0 = T := ⟨_, rfl⟩
  rw [hT]
  have h0 : (Q3 (l.drop 0) k).foldl step S0 = T := hT
  clear hT
  simp only [Z0, List.cons_append, List.nil_append]
  refine z9 func231 rfl (fun E hE => ?_); simp only [go_sem, ntmps231]
  refine wk1 trivial ?_
  refine Q7 rfl (l.length) (fun i (S : CS) => (Q3 (l.drop i) k).foldl step S = T ∧ zTD S) 44 (fun i S => [(11, iV i), (10, iV l.length), (9, x5 l), (3, .ptr 16 0), (2, .ptr 15 0)]) (fun i S => Z0 0 D chain S ++ [.box [x5 l], .box [sV k], .box [.yld 0]]) [some 0, some 1, some 2, some 3, some 4, some 5, some 6, some 7, some 8, some 9, some 10, some 11, some 12, some 13, some 14, some 15, some 16] [] (S0) (by exact ⟨h0, hS⟩) ?_; intro i S hi hP
  obtain ⟨hP, hG⟩ := hP
  by_cases hi2 : i < l.length
  · have hrl := hr _ (j9 hi2)
    rw [zPr hi2] at hP
    generalize hsu : (l.getD i default).src = u at *
    generalize hsv : (l.getD i default).dst = v at *
    rw [List.foldl_append] at hP
    have hQ0 : (Q3 (l.drop (i + 1)) k).foldl step ((C3 k u v 0).foldl step S) = T := hP
    clear hP hr
    refine wk1 trivial ?_
    refine Q7 rfl (2) (fun j (S2 : CS) => (Q3 (l.drop (i + 1)) k).foldl step ((C3 k u v j).foldl step S2) = T ∧ zTD S2) 44 (fun j S2 => [(27, iV j), (26, iV 2), (25, .own 17 2 0 2), (11, iV i), (10, iV l.length), (9, x5 l), (3, .ptr 16 0), (2, .ptr 15 0)]) (fun j S2 => Z0 0 D chain S2 ++ [.box [x5 l], .box [sV k], .box [.yld 0], .row 2 (zCy u v)]) [some 0, some 1, some 2, some 3, some 4, some 5, some 6, some 7, some 8, some 9, some 10, some 11, some 12, some 13, some 14, some 15, some 16, some 18] [] (S) (by exact ⟨hQ0, hG⟩) ?_; intro j S2 hj hQ
    obtain ⟨hQ, hG2⟩ := hQ
    by_cases hj2 : j < 2
    · obtain ⟨x, y, hxy, hst, hlen⟩ := zLn k u v hj2
      rw [hst, List.foldl_append] at hQ
      have sr := zOO k x y
      have hxl : x.length ≤ 1000 ∧ y.length ≤ 1000 := by
        rcases hlen with ⟨rfl, rfl⟩ | ⟨rfl, rfl⟩
        · exact hrl
        · exact ⟨hrl.2, hrl.1⟩
      have s1 := fun fn => zOP D chain ⟨k, u, v, i, j, l, fn⟩ zTD step (fun S s h1 h2 => zQK D chain _ S _ s (hy S s h1 h2)) hg k x y hk1 hxl.1 hxl.2 S2 hG2
      have hG3 := zEc hg (X3 k x y) S2 (fun s hs => zL5 hs) hG2
      obtain ⟨S3, hS3⟩ : ∃ S3, (X3 k x y).foldl step S2 = S3 := ⟨_, rfl⟩
      rw [hS3] at hQ hG3
      simp only [hS3] at s1
      clear hlen hst hS3 hy hg hrl hxl hG2
      repeat' (first | (refine Qr rfl ?_; try intro _ hK; try simp only [go_sem, *]) | refine Qh rfl ?_ | (refine Qc rfl rfl ?_ ?_ <;> (intro hb; have hc := hb; try simp only [go_sem] at hc)) | refine z8 rfl ?_ | ((with_reducible apply And.intro); focus omega) | (refine z7 hK ?_; clear hK; simp only [go_sem, *]) | simp only [z6, z5, go_sem, *])
      refine v9 sr ?_ (hu := by (intro j hj; simp only [List.length_cons, List.length_nil] at hj; (obtain rfl | rfl | rfl : j = 0 ∨ j = 1 ∨ j = 2 := by omega) <;> simp [go_sem]))
      simp only [go_sem, *]
      repeat' (first | (refine Qr rfl ?_; try intro _ hK; try simp only [go_sem, *]) | refine Qh rfl ?_ | (refine Qc rfl rfl ?_ ?_ <;> (intro hb; have hc := hb; try simp only [go_sem] at hc)) | refine z8 rfl ?_ | ((with_reducible apply And.intro); focus omega) | (refine z7 hK ?_; clear hK; simp only [go_sem, *]) | simp only [z6, z5, go_sem, *])
      refine V3 (N := 44) (env := [(36, .fn 247 [.ptr 18 0, .ptr 19 0, .ptr 20 0]), (27, iV j), (26, iV 2), (25, .own 17 2 0 2), (11, iV i), (10, iV l.length), (9, x5 l), (3, .ptr 16 0), (2, .ptr 15 0)]) (As := Z0 0 D chain S2 ++ [.box [x5 l], .box [sV k], .box [.yld 0], .row 2 (zCy u v), .box [sV k], .box [sV x], .box [sV y]]) [some 0, some 1, some 2, some 3, some 4, some 5, some 6, some 7, some 8, some 9, some 10, some 11, some 12, some 13, some 14, some 15, some 16, some 17, some 19, some 20, some 21] [] (by (simp only [Weak, go_sem, List.map_append, List.map_set, *] <;> (try simp (disch := omega) only [o3]) <;> (try simp) <;> (try omega))) ?_
      refine zBb (f := 247) (caps := [.ptr 18 0, .ptr 19 0, .ptr 20 0]) rfl (by simp only [go_sem]) (by kernel_rfl) (nx := 21) (by simp only [go_sem]) (fun fn => ⟨22, ?_⟩)
      refine x4 [21, 0, 1, 2, 3, 4, 5, 6, 7, 8, 9, 10, 11, 12, 13, 16, 15, 17, 18, 19, 20] [] (s1 fn) (by simp) (by simp only [go_sem]) ?_ (by simp) (.inl rfl) (by simp [go_sem]) (by simp [go_sem]) ?_
      · simp only [go_sem, *]
        rfl
      · simp only [go_sem, *]
        refine ⟨zBk fn, [(3, .ptr 16 0), (2, .ptr 15 0), (25, .own 17 2 0 2), (27, iV j), (26, iV 2), (11, iV i), (10, iV l.length), (9, x5 l)], none, by simp only [go_sem], ?_⟩
        simp only [go_sem]
        refine wk1 trivial ?_
        all_goals first | contradiction | omega | skip
        exact t7 (i' := j + 1) [some 0, some 1, some 2, some 3, some 4, some 5, some 6, some 7, some 8, some 9, some 10, some 11, some 12, some 13, some 14, some 15, some 16, some 17] [] (S3) (by exact ⟨hQ, hG3⟩)
    · have e2 : C3 k u v j = [] := by
        rcases (by omega : j = 2) with rfl
        rfl
      rw [e2] at hQ
      have hQ : (Q3 (l.drop (i + 1)) k).foldl step S2 = T := hQ
      refine wk1 trivial ?_
      all_goals first | contradiction | omega | skip
      exact t7 (i' := i + 1) [some 0, some 1, some 2, some 3, some 4, some 5, some 6, some 7, some 8, some 9, some 10, some 11, some 12, some 13, some 14, some 15, some 16] [] (S2) (by exact ⟨hQ, hG2⟩)
  · have e : l.drop i = [] := l5 (by omega)
    rw [e] at hP
    have hP : S = T := hP
    subst hP
    refine wk1 trivial ?_
    all_goals first | contradiction | omega | skip
    refine ⟨[], [some 0, some 1, some 2, some 3, some 4, some 5, some 6, some 7, some 8, some 9, some 10, some 11, some 12, some 13, some 14, some 15], [], trivial, ?_⟩
    simp only [go_sem, W4, *]
end Go.Abs

namespace Go.Abs
open Go Go.Proofs Tryz
attribute [local irreducible] q9 Hold y2
variable [Cur]
noncomputable def Y9 (o : Nat) (D : ChainD) (B : Option (List Str)) : List AObj :=
 [.box [iV D.many], .box [sV D.to], .box [.yld (o + 5)], .box [x5 D.l],
  .box [.fn 213 [.ptr o 0, .ptr (o + 1) 0, .ptr (o + 2) 0, .ptr (o + 3) 0, .ptr (o + 4) 0]],
  .loopo (X0 D.fnF) [(3, .ptr (o + 6) 0), (6, .ptr (o + 7) 0), (7, .ptr (o + 8) 0)] (some none), .box [U2], .box [Z7 B], .box [bV B.isSome]]
attribute [go_sem] Y9
abbrev D2 (s : Str) (chain : List Str) : List AV := [sV s, o5 chain, .ptr 0 0, .ptr 1 0, .ptr 2 0, .ptr 3 0, .ptr 4 0]
theorem zQJ (D : ChainD) (chain : List Str) (S : CS) (s : Str) (hm : ∀ x, x ∈ S.1 → x.length ≤ 1000) (hs : s.length ≤ 1000) (h : s ∈ S.1) :
  U0 prog [sV s] (Z0 0 D chain S) (bV true) (Z0 0 D chain S) := by
 refine A0 (L := D3 D.fnG) (env := [(11, .ptr 11 0), (10, .ptr 10 0), (6, .ptr 5 0), (9, .ptr 13 0)]) (j := none) rfl rfl (fun E l hE => ?_)
 refine X2 rfl ?_
 simp only [D3, V5, go_sem]
 repeat' (first | (refine Qr (ops := _ :: _) rfl ?_; try intro _ hK; try simp only [go_sem, *]) | (refine Qi rfl rfl rfl rfl ?_ ?_ <;> (intro hb; (try intro _ hK); have hc := hb; try simp only [go_sem] at hc; simp only [go_sem, *])) | (refine Qb ?_ ?_; focus kernel_rfl) | ((with_reducible apply And.intro); focus omega) | (refine z7 hK ?_; clear hK; simp only [go_sem, *]) | simp only [z6, z5, go_sem, *])
 refine l7 ?_
 refine ⟨by simp only [go_sem], ?_⟩
 refine C8 (id := 1) rfl ?_
 refine N4 rfl ?_
 refine N4 rfl ?_
 refine X2 rfl ?_
 simp only [go_sem]
 repeat' (first | (refine Qr (ops := _ :: _) rfl ?_; try intro _ hK; try simp only [go_sem, *]) | (refine Qi rfl rfl rfl rfl ?_ ?_ <;> (intro hb; (try intro _ hK); have hc := hb; try simp only [go_sem] at hc; simp only [go_sem, *])) | (refine Qb ?_ ?_; focus kernel_rfl) | ((with_reducible apply And.intro); focus omega) | (refine z7 hK ?_; clear hK; simp only [go_sem, *]) | simp only [z6, z5, go_sem, *])
 refine zFS hm hs (by simp only [go_sem]) ?_
 simp only [go_sem, *]
 repeat' (first | (refine Qr (ops := _ :: _) rfl ?_; try intro _ hK; try simp only [go_sem, *]) | (refine Qi rfl rfl rfl rfl ?_ ?_ <;> (intro hb; (try intro _ hK); have hc := hb; try simp only [go_sem] at hc; simp only [go_sem, *])) | (refine Qb ?_ ?_; focus kernel_rfl) | ((with_reducible apply And.intro); focus omega) | (refine z7 hK ?_; clear hK; simp only [go_sem, *]) | simp only [z6, z5, go_sem, *])
 refine l7 ?_
 refine C9 (t := true) rfl (by simp only [go_sem]) (fun _ => ?_) (fun h => by cases h)
 refine zLy rfl ?_
 simp only [z6, z5, go_sem]
 refine ⟨rfl, [some 0, some 1, some 2, some 3, some 4, some 5, some 6, some 7, some 8, some 9, some 10, some 11, some 12, some 13], [], ?_⟩
 simp only [go_sem, *]
theorem zQI (D : ChainD) (chain : List Str) (S : CS) (B' : Option (List Str)) (s : Str) (hm : ∀ x, x ∈ S.1 → x.length ≤ 1000) (hs : s.length ≤ 1000) (h : s ∉ S.1)
  (sg : zSx prog 213 (D2 s chain) (Y9 0 D S.2) (bV true) (Y9 0 D B')) :
  U0 prog [sV s] (Z0 0 D chain S) (bV true) (Z0 0 D chain (S.1 ++ [s], B')) := by
 have hca : t6 prog 213 = true := by kernel_rfl
 have hput : zT2 S.1 s = S.1 ++ [s] := by unfold zT2; rw [if_neg h]
 refine A0 (L := D3 D.fnG) (env := [(11, .ptr 11 0), (10, .ptr 10 0), (6, .ptr 5 0), (9, .ptr 13 0)]) (j := none) rfl rfl (fun E l hE => ?_)
 refine X2 rfl ?_
 simp only [D3, V5, go_sem]
 repeat' (first | (refine Qr (ops := _ :: _) rfl ?_; try intro _ hK; try simp only [go_sem, *]) | (refine Qi rfl rfl rfl rfl ?_ ?_ <;> (intro hb; (try intro _ hK); have hc := hb; try simp only [go_sem] at hc; simp only [go_sem, *])) | (refine Qb ?_ ?_; focus kernel_rfl) | ((with_reducible apply And.intro); focus omega) | (refine z7 hK ?_; clear hK; simp only [go_sem, *]) | simp only [z6, z5, go_sem, *])
 refine l7 ?_
 refine ⟨by simp only [go_sem], ?_⟩
 refine C8 (id := 1) rfl ?_
 refine N4 rfl ?_
 refine N4 rfl ?_
 refine X2 rfl ?_
 try simp only [go_sem]
 repeat' (first | (refine Qr (ops := _ :: _) rfl ?_; try intro _ hK; try simp only [go_sem, *]) | (refine Qi rfl rfl rfl rfl ?_ ?_ <;> (intro hb; (try intro _ hK); have hc := hb; try simp only [go_sem] at hc; simp only [go_sem, *])) | (refine Qb ?_ ?_; focus kernel_rfl) | ((with_reducible apply And.intro); focus omega) | (refine z7 hK ?_; clear hK; simp only [go_sem, *]) | simp only [z6, z5, go_sem, *])
 refine zFS hm hs (by simp only [go_sem]) ?_
 simp only [go_sem, *]
 repeat' (first | (refine Qr (ops := _ :: _) rfl ?_; try intro _ hK; try simp only [go_sem, *]) | (refine Qi rfl rfl rfl rfl ?_ ?_ <;> (intro hb; (try intro _ hK); have hc := hb; try simp only [go_sem] at hc; simp only [go_sem, *])) | (refine Qb ?_ ?_; focus kernel_rfl) | ((with_reducible apply And.intro); focus omega) | (refine z7 hK ?_; clear hK; simp only [go_sem, *]) | simp only [z6, z5, go_sem, *])
 refine l7 ?_
 refine C9 (t := false) rfl (by simp only [go_sem]) (fun h => by cases h) (fun _ => ?_)
 refine zBT rfl ?_
 refine N4 rfl ?_
 refine X2 rfl ?_
 try simp only [go_sem]
 repeat' (first | (refine Qr (ops := _ :: _) rfl ?_; try intro _ hK; try simp only [go_sem, *]) | (refine Qi rfl rfl rfl rfl ?_ ?_ <;> (intro hb; (try intro _ hK); have hc := hb; try simp only [go_sem] at hc; simp only [go_sem, *])) | (refine Qb ?_ ?_; focus kernel_rfl) | ((with_reducible apply And.intro); focus omega) | (refine z7 hK ?_; clear hK; simp only [go_sem, *]) | simp only [z6, z5, go_sem, *])
 refine zPq hm hs (by simp only [go_sem]) ?_
 rw [hput]
 repeat' (first | (refine Qr (ops := _ :: _) rfl ?_; try intro _ hK; try simp only [go_sem, *]) | (refine Qi rfl rfl rfl rfl ?_ ?_ <;> (intro hb; (try intro _ hK); have hc := hb; try simp only [go_sem] at hc; simp only [go_sem, *])) | (refine Qb ?_ ?_; focus kernel_rfl) | ((with_reducible apply And.intro); focus omega) | (refine z7 hK ?_; clear hK; simp only [go_sem, *]) | simp only [z6, z5, go_sem, *])
 refine l7 ?_
 refine N4 rfl ?_
 refine X2 rfl ?_
 try simp only [go_sem]
 repeat' (first | (refine Qr (ops := _ :: _) rfl ?_; try intro _ hK; try simp only [go_sem, *]) | (refine Qi rfl rfl rfl rfl ?_ ?_ <;> (intro hb; (try intro _ hK); have hc := hb; try simp only [go_sem] at hc; simp only [go_sem, *])) | (refine Qb ?_ ?_; focus kernel_rfl) | ((with_reducible apply And.intro); focus omega) | (refine z7 hK ?_; clear hK; simp only [go_sem, *]) | simp only [z6, z5, go_sem, *])
 refine j5 [1, 2, 3, 4, 5, 6, 7, 8, 9] sg ?_
 simp only [go_sem, *]
 repeat' (first | (refine Qr (ops := _ :: _) rfl ?_; try intro _ hK; try simp only [go_sem, *]) | (refine Qi rfl rfl rfl rfl ?_ ?_ <;> (intro hb; (try intro _ hK); have hc := hb; try simp only [go_sem] at hc; simp only [go_sem, *])) | (refine Qb ?_ ?_; focus kernel_rfl) | ((with_reducible apply And.intro); focus omega) | (refine z7 hK ?_; clear hK; simp only [go_sem, *]) | simp only [z6, z5, go_sem, *])
 refine l7 ?_
 refine C9 (t := false) rfl (by simp only [go_sem]) (fun h => by cases h) (fun _ => ?_)
 refine zBT rfl ?_
 simp only [z5, go_sem]
 refine ⟨rfl, [some 0, some 1, some 2, some 3, some 4, some 5, some 6, some 7, some 8, some 9, some 10, some 11, some 12, some 13], [], ?_⟩
 simp only [go_sem, *]
end Go.Abs

namespace Go.Abs
open Go Go.Proofs Tryz
attribute [local irreducible] q9 Hold y2
variable [Cur]
theorem zA7 {α : Type} {cmp : α → α → Int} : ∀ {L : List α} {B : Option α} {b : α}, w7 cmp B L = some b → B = some b ∨ b ∈ L
 | [], B, b, h => by cases B <;> exact .inl h
 | x :: r, none, b, h => by
  rw [w7] at h
  rcases zA7 h with h | h
  ·cases h; exact .inr (by simp)
  ·exact .inr (by simp [h])
 | x :: r, some y, b, h => by
  rw [w7] at h
  split at h
  ·rcases zA7 h with h | h
   ·cases h; exact .inr (by simp)
   ·exact .inr (by simp [h])
  ·rcases zA7 h with h | h
   ·exact .inl h
   ·exact .inr (by simp [h])
@[go_sem] theorem zSp (pre : List Str) (x : AV) : List.take (pre.length + 1) (List.map sV pre ++ [x]) = List.map sV pre ++ [x] := List.take_of_length_le (by simp)
def M3 (B : Option (List Str)) : Prop := ∀ b, B = some b → b.length ≤ 1000
theorem zHn {l : List Rule} {to now : Str} {n : Nat} {pre : List Str} {B : Option (List Str)} (h : pre.length + n ≤ 900) (hB : M3 B) : M3 (w7 zS1 B (j6 l to n now pre)) := fun b hb => by
 rcases zA7 hb with h1 | h1
 ·exact hB b h1
 ·obtain ⟨d, rfl, hd⟩ := mem_chainsN.1 h1
  have := zDy hd
  rw [List.length_append]; omega
theorem zNq (D : ChainD) (now : Str) (pre : List Str) (B : Option (List Str)) (hm : (pre.length : Int) = D.many) (hp : pre.length ≤ 100) (q : ¬ now = D.to) :
  zSx prog 213 (D2 now pre) (Y9 0 D B) (bV true) (Y9 0 D B) := by
 have sc := zDA pre (by omega)
 have g : D.many < ((pre.length + 1 : Nat) : Int) := by omega
 have hq : (now == D.to) = false := by simpa using q
 refine z9 func213 rfl (fun E hE => ?_); simp only [go_sem, ntmps213]
 repeat' (first | (refine Qr rfl ?_; try intro _ hK; try simp only [go_sem, *]) | (refine Qi rfl rfl rfl rfl ?_ ?_ <;> (intro hb; (try intro _ hK); have hc := hb; try simp only [go_sem] at hc; simp only [go_sem, *])) | refine Qh rfl ?_ | (refine v9 (sc) ?_; simp only [go_sem, *]) | ((with_reducible apply And.intro); focus omega) | (refine z7 hK ?_; clear hK; simp only [go_sem, *]) | simp only [z6, z5, go_sem, *])
 refine zAW rfl ⟨true, by simp only [go_sem, *], fun _ => ?_, fun e => by cases e⟩
 refine zBc rfl ?_
 refine zAX 6 rfl rfl rfl ?_
 simp only [List.take_succ_cons, List.take_zero, List.drop_succ_cons, List.drop_zero]
 repeat' (first | (refine Qr (ops := _ :: _) rfl ?_; try intro _ hK; try simp only [go_sem, *]) | (refine Qi rfl rfl rfl rfl ?_ ?_ <;> (intro hb; (try intro _ hK); have hc := hb; try simp only [go_sem] at hc; simp only [go_sem, *])) | ((with_reducible apply And.intro); focus omega) | (refine z7 hK ?_; clear hK; simp only [go_sem, *]) | simp only [z6, z5, go_sem, *])
 refine l7 ?_
 refine zEp rfl rfl (by simp only [go_sem, *]) ?_
 refine ⟨by show 28 < 45; omega, ?_⟩
 simp only [go_sem, *]
 refine wk1 trivial ?_
 refine ⟨[bV true], [some 0, some 1, some 2, some 3, some 4, some 5, some 6, some 7, some 8], [], ⟨by simp only [Z2, go_sem], trivial⟩, ?_⟩
 simp only [go_sem, *]
theorem zNr (D : ChainD) (now : Str) (pre : List Str) (B : Option (List Str)) (hm : (pre.length : Int) = D.many) (hp : pre.length ≤ 100) (q : now = D.to) (hB : M3 B) :
  zSx prog 213 (D2 now pre) (Y9 0 D B) (bV true) (Y9 0 D (w7 zS1 B [pre ++ [now]])) := by
 have sc := zDA pre (by omega)
 have g : D.many < ((pre.length + 1 : Nat) : Int) := by omega
 have hq : (now == D.to) = true := by simpa using q
 have sy := zQF D.fnF B (pre ++ [now]) hB (by simp; omega)
 generalize w7 zS1 B [pre ++ [now]] = B' at *
 clear q
 refine z9 func213 rfl (fun E hE => ?_); simp only [go_sem, ntmps213]
 repeat' (first | (refine Qr rfl ?_; try intro _ hK; try simp only [go_sem, *]) | (refine Qi rfl rfl rfl rfl ?_ ?_ <;> (intro hb; (try intro _ hK); have hc := hb; try simp only [go_sem] at hc; simp only [go_sem, *])) | refine Qh rfl ?_ | (refine v9 (sc) ?_; simp only [go_sem, *]) | ((with_reducible apply And.intro); focus omega) | (refine z7 hK ?_; clear hK; simp only [go_sem, *]) | simp only [z6, z5, go_sem, *])
 refine V3 (N := 45) (env := [(21, bV true), (0, sV now), (3, .ptr 1 0), (4, .ptr 2 0), (10, .ptr 10 0), (9, .ptr 9 0)]) (As := Y9 0 D B ++ [.box [bV false], .box [o5 (pre ++ [now])]]) [some 0, some 1, some 2, some 3, some 4, some 5, some 6, some 7, some 8, some 9, some 13] [12] (by (simp only [Weak, go_sem, List.map_append, List.map_set, *] <;> (try simp (disch := omega) only [o3]) <;> (try simp) <;> (try omega))) ?_
 refine zAW rfl ⟨true, by simp only [go_sem, *], fun _ => ?_, fun e => by cases e⟩
 refine zBc rfl ?_
 refine zAX 6 rfl rfl rfl ?_
 simp only [List.take_succ_cons, List.take_zero, List.drop_succ_cons, List.drop_zero, go_sem]
 repeat' (first | (refine Qr (ops := _ :: _) rfl ?_; try intro _ hK; try simp only [go_sem, *]) | (refine Qi rfl rfl rfl rfl ?_ ?_ <;> (intro hb; (try intro _ hK); have hc := hb; try simp only [go_sem] at hc; simp only [go_sem, *])) | ((with_reducible apply And.intro); focus omega) | (refine z7 hK ?_; clear hK; simp only [go_sem, *]) | simp only [z6, z5, go_sem, *])
 refine l7 ?_
 refine zCV rfl rfl (by simp only [go_sem, *]) ?_
 refine ⟨by show 28 < 45; omega, ?_⟩
 simp only [go_sem]
 refine zBm [5, 6, 7, 8] [] sy rfl rfl (by simp) (by simp only [go_sem]) (by simp only [go_sem]) (by simp) (.inl rfl) (by simp [go_sem]) (by simp [go_sem]) ?_
 simp only [go_sem]
 refine wk1 trivial ?_
 refine ⟨[bV true], [some 0, some 1, some 2, some 3, some 4, some 5, some 6, some 7, some 8], [], ⟨by simp only [Z2, go_sem], trivial⟩, ?_⟩
 simp only [go_sem, *]
theorem zNs (D : ChainD) (n : Nat) (IH : ∀ (D : ChainD) (now : Str) (pre : List Str) (B : Option (List Str)), (pre.length : Int) + n = D.many → pre.length + n ≤ 100 → v7 now 1 12 = true → M3 B → D.l.length ≤ 1000 → (∀ r, r ∈ D.l → r.src.length ≤ 1000 ∧ r.dst.length ≤ 1000) →
      zSx prog 213 (D2 now pre) (Y9 0 D B) (bV true) (Y9 0 D (w7 zS1 B (j6 D.l D.to n now pre))))
    (now : Str) (pre : List Str) (B : Option (List Str)) (hm : (pre.length : Int) + (n + 1 : Nat) = D.many) (hp : pre.length + (n + 1) ≤ 100) (hn : v7 now 1 12 = true) (hB : M3 B) (hl : D.l.length ≤ 1000) (hr : ∀ r, r ∈ D.l → r.src.length ≤ 1000 ∧ r.dst.length ≤ 1000) :
    zSx prog 213 (D2 now pre) (Y9 0 D B) (bV true) (Y9 0 D (w7 zS1 B (j6 D.l D.to (n + 1) now pre))) := by
  have sc := zDA pre (by omega)
  have su := zOd now D.l
  have g : ¬ D.many < ((pre.length + 1 : Nat) : Int) := by omega
  have hnl : now.length ≤ 1000 := by
    unfold v7 at hn
    simp only [Bool.and_eq_true, decide_eq_true_eq] at hn
    omega
  have s1 : ∀ fn, zSx prog 231 [.yld 0, .ptr 14 0, .ptr 15 0] (Z0 0 { D with fnG := fn } (pre ++ [now]) ([], B) ++ [.box [x5 D.l], .box [sV now]]) (.tup []) (Z0 0 { D with fnG := fn } (pre ++ [now]) ((Q3 D.l now).foldl (T1 D.l D.to n (pre ++ [now])) ([], B)) ++ [.box [x5 D.l], .box [sV now]]) := fun fn =>
    zOe { D with fnG := fn } (pre ++ [now]) (fun S => (∀ x, x ∈ S.1 → x.length ≤ 1000) ∧ M3 S.2) (T1 D.l D.to n (pre ++ [now]))
      (fun S s hG hs => by
        have hsl : s.length ≤ 1000 := by
          unfold v7 at hs
          simp only [Bool.and_eq_true, decide_eq_true_eq] at hs
          omega
        by_cases h : s ∈ S.1
        · have e : T1 D.l D.to n (pre ++ [now]) S s = S := by unfold T1; rw [if_pos h]
          rw [e]; exact zQJ _ _ S s hG.1 hsl h
        · have e : T1 D.l D.to n (pre ++ [now]) S s = (S.1 ++ [s], w7 zS1 S.2 (j6 D.l D.to n s (pre ++ [now]))) := by unfold T1; rw [if_neg h]
          rw [e]
          exact zQI _ _ S _ s hG.1 hsl h (IH { D with fnG := fn } s (pre ++ [now]) S.2 (by simp; omega) (by simp; omega) hs hG.2 hl hr))
      (fun S s hG hs => by
        have hsl : s.length ≤ 1000 := by
          unfold v7 at hs
          simp only [Bool.and_eq_true, decide_eq_true_eq] at hs
          omega
        unfold T1
        split
        · exact hG
        · refine ⟨fun x hx => ?_, zHn (by simp; omega) hG.2⟩
          rcases List.mem_append.1 hx with hx | hx
          · exact hG.1 x hx
          · rw [List.mem_singleton.1 hx]; exact hsl)
      now D.l hnl hl hr ([], B) ⟨fun x hx => (by cases hx), hB⟩
  have e := zJb D.l D.to n now pre B
  obtain ⟨S', hS'⟩ : ∃ S', (Q3 D.l now).foldl (T1 D.l D.to n (pre ++ [now])) ([], B) = S' := ⟨_, rfl⟩
  rw [hS'] at e
  simp only [hS'] at s1
  rw [← e]
  clear e hS' IH hn hnl hr hB
  refine z9 func213 rfl (fun E hE => ?_); simp only [go_sem, ntmps213]
  repeat' (first | (refine Qr rfl ?_; try intro _ hK; try simp only [go_sem, *]) | (refine Qi rfl rfl rfl rfl ?_ ?_ <;> (intro hb; (try intro _ hK); have hc := hb; try simp only [go_sem] at hc; simp only [go_sem, *])) | refine Qh rfl ?_ | (refine v9 (sc) ?_; simp only [go_sem, *]) | ((with_reducible apply And.intro); focus omega) | (refine z7 hK ?_; clear hK; simp only [go_sem, *]) | simp only [z6, z5, go_sem, *])
  refine zAW rfl ⟨false, by simp only [go_sem, *], fun e => (by cases e), fun _ => ?_⟩
  repeat' (first | (refine Qr rfl ?_; try intro _ hK; try simp only [go_sem, *]) | (refine Qi rfl rfl rfl rfl ?_ ?_ <;> (intro hb; (try intro _ hK); have hc := hb; try simp only [go_sem] at hc; simp only [go_sem, *])) | refine Qh rfl ?_ | (refine Qc rfl rfl ?_ ?_ <;> (intro hb; have hc := hb; try simp only [go_sem] at hc)) | refine z8 rfl ?_ | ((with_reducible apply And.intro); focus omega) | (refine z7 hK ?_; clear hK; simp only [go_sem, *]) | simp only [z6, z5, go_sem, *])
  refine v9 su ?_ (hu := by (intro j hj; simp only [List.length_cons, List.length_nil] at hj; (obtain rfl | rfl : j = 0 ∨ j = 1 := by omega) <;> simp [go_sem]))
  simp only [go_sem, *]
  repeat' (first | (refine Qr rfl ?_; try intro _ hK; try simp only [go_sem, *]) | (refine Qi rfl rfl rfl rfl ?_ ?_ <;> (intro hb; (try intro _ hK); have hc := hb; try simp only [go_sem] at hc; simp only [go_sem, *])) | refine Qh rfl ?_ | (refine Qc rfl rfl ?_ ?_ <;> (intro hb; have hc := hb; try simp only [go_sem] at hc)) | refine z8 rfl ?_ | ((with_reducible apply And.intro); focus omega) | (refine z7 hK ?_; clear hK; simp only [go_sem, *]) | simp only [z6, z5, go_sem, *])
  refine V3 (N := 45) (env := [(33, .fn 231 [.ptr 13 0, .ptr 14 0]), (11, .ptr 11 0), (10, .ptr 10 0), (6, .ptr 4 0), (9, .ptr 9 0)]) (As := Y9 0 D B ++ [.box [bV false], .box [o5 (pre ++ [now])], .box [.mp 12], .mapo [] [], .box [x5 D.l], .box [sV now]]) [some 0, some 1, some 2, some 3, some 4, some 5, some 6, some 7, some 8, some 9, some 13, some 15, some 14, some 16, some 17] [12] (by (simp only [Weak, go_sem, List.map_append, List.map_set, *] <;> (try simp (disch := omega) only [o3]) <;> (try simp) <;> (try omega))) ?_
  refine zBb (f := 231) (caps := [.ptr 13 0, .ptr 14 0]) rfl (by simp only [go_sem]) (by kernel_rfl) (nx := 15) (by simp only [go_sem]) (fun fn => ⟨16, ?_⟩)
  refine x4 [15, 0, 1, 2, 3, 4, 5, 6, 7, 8, 10, 11, 12, 9, 13, 14] [] (s1 fn) (by simp) (by simp only [go_sem]) ?_ (by simp) (.inl rfl) (by simp [go_sem]) (by simp [go_sem]) ?_
  · simp only [go_sem, *]
    rfl
  · simp only [go_sem, *]
    refine ⟨D3 fn, [(11, .ptr 11 0), (10, .ptr 10 0), (6, .ptr 4 0), (9, .ptr 9 0)], none, by simp only [go_sem], ?_⟩
    simp only [go_sem]
    refine wk1 trivial ?_
    refine ⟨[bV true], [some 0, some 1, some 2, some 3, some 4, some 5, some 6, some 7, some 8], [], ⟨by simp only [Z2, go_sem], trivial⟩, ?_⟩
    simp only [go_sem, *]
end Go.Abs

namespace Go.Abs
open Go Go.Proofs Tryz
attribute [local irreducible] q9 Hold y2
variable [Cur]
theorem zIt {α : Type} (cmp : α → α → Int) (B : Option α) : w7 cmp B [] = B := by cases B <;> rfl
theorem zGO : ∀ (n : Nat) (D : ChainD) (now : Str) (pre : List Str) (B : Option (List Str)), (pre.length : Int) + n = D.many → pre.length + n ≤ 100 → v7 now 1 12 = true → M3 B → D.l.length ≤ 1000 → (∀ r, r ∈ D.l → r.src.length ≤ 1000 ∧ r.dst.length ≤ 1000) →
  zSx prog 213 (D2 now pre) (Y9 0 D B) (bV true) (Y9 0 D (w7 zS1 B (j6 D.l D.to n now pre)))
 | 0, D, now, pre, B, hm, hp, hn, hB, hl, hr => by
  rw [j6]
  by_cases q : now = D.to
  ·rw [if_pos q]; exact zNr D now pre B (by simpa using hm) (by omega) q hB
  ·rw [if_neg q, zIt]; exact zNq D now pre B (by simpa using hm) (by omega) q
 | n + 1, D, now, pre, B, hm, hp, hn, hB, hl, hr => zNs D n (zGO n) now pre B hm hp hn hB hl hr
theorem zNf (D : ChainD) (k : Str) (n : Nat) (B : Option (List Str)) (hm : (n : Int) = D.many) (hp : n ≤ 100) (hk1 : v7 k 1 12 = true) (hB : M3 B) (hl : D.l.length ≤ 1000) (hr : ∀ r, r ∈ D.l → r.src.length ≤ 1000 ∧ r.dst.length ≤ 1000) :
  zSx prog 212 [.yld 0, .ptr 4 0, .ptr 5 0, .ptr 6 0, .ptr 7 0] [.loopo (X0 D.fnF) [(3, .ptr 1 0), (6, .ptr 2 0), (7, .ptr 3 0)] (some none), .box [U2], .box [Z7 B], .box [bV B.isSome], .box [iV D.many], .box [sV D.to], .box [x5 D.l], .box [sV k]] (.tup [])
   [.loopo (X0 D.fnF) [(3, .ptr 1 0), (6, .ptr 2 0), (7, .ptr 3 0)] (some none), .box [U2], .box [Z7 (w7 zS1 B (j6 D.l D.to n k []))], .box [bV (w7 zS1 B (j6 D.l D.to n k [])).isSome], .box [iV D.many], .box [sV D.to], .box [x5 D.l], .box [sV k]] := by
 have hca : t6 prog 213 = true := by kernel_rfl
 have sg := zGO n D k [] B (by simpa using hm) (by simpa using hp) hk1 hB hl hr
 generalize w7 zS1 B (j6 D.l D.to n k []) = B' at *
 clear hr
 refine z9 func212 rfl (fun E hE => ?_); simp only [go_sem, ntmps212]
 repeat' (first | (refine Qr rfl ?_; try intro _ hK; try simp only [go_sem, *]) | refine Qh rfl ?_ | (refine Qc rfl rfl ?_ ?_ <;> (intro hb; have hc := hb; try simp only [go_sem] at hc)) | refine z8 rfl ?_ | ((with_reducible apply And.intro); focus omega) | (refine z7 hK ?_; clear hK; simp only [go_sem, *]) | simp only [z6, z5, go_sem, *])
 refine j5 [4, 5, 8, 6, 9, 0, 1, 2, 3] sg ?_
 simp only [go_sem, *]
 repeat' (first | (refine Qr rfl ?_; try intro _ hK; try simp only [go_sem, *]) | refine Qh rfl ?_ | (refine Qc rfl rfl ?_ ?_ <;> (intro hb; have hc := hb; try simp only [go_sem] at hc)) | refine z8 rfl ?_ | ((with_reducible apply And.intro); focus omega) | (refine z7 hK ?_; clear hK; simp only [go_sem, *]) | simp only [z6, z5, go_sem, *])
 refine ⟨[], [some 0, some 1, some 2, some 3, some 4, some 5, some 6, some 7], [], trivial, ?_⟩
 simp only [go_sem, W4, *]
theorem zNe (k : Str) (l : List Rule) (to : Str) (many : Int) : zSx prog 188 [sV k, x5 l, sV to, iV many] [] (.fn 212 [.ptr 0 0, .ptr 1 0, .ptr 2 0, .ptr 3 0]) [.box [iV many], .box [sV to], .box [x5 l], .box [sV k]] := by
 refine z9 func188 rfl (fun E hE => ?_); simp only [go_sem, ntmps188]
 refine wk1 trivial ?_
 refine ⟨[_], [some 3, some 2, some 1, some 0], [], ⟨rfl, trivial⟩, ?_⟩
 simp only [go_sem, *]
theorem zNn (k : Str) (l : List Rule) (to : Str) (n : Nat) (hp : n ≤ 100) (hk1 : v7 k 1 12 = true) (hl : l.length ≤ 1000) (hr : ∀ r, r ∈ l → r.src.length ≤ 1000 ∧ r.dst.length ≤ 1000) :
  zSx prog 187 [.fn 212 [.ptr 0 0, .ptr 1 0, .ptr 2 0, .ptr 3 0], U2] [.box [iV n], .box [sV to], .box [x5 l], .box [sV k]] (.tup [Z7 (V2 l n k to), bV (V2 l n k to).isSome]) [.box [iV n], .box [sV to], .box [x5 l], .box [sV k]] := by
 have s1 := fun fn => zNf ⟨n, to, l, 0, fn⟩ k n none rfl hp hk1 (fun b h => by cases h) hl hr
 have e : V2 l n k to = w7 zS1 none (j6 l to n k []) := rfl
 rw [e]
 simp only at s1
 generalize w7 zS1 none (j6 l to n k []) = B at *
 clear hr e
 refine z9 func187 rfl (fun E hE => ?_); simp only [go_sem, ntmps187]
 refine wk1 trivial ?_
 refine V3 (N := 23) (env := [(9, .fn 212 [.ptr 0 0, .ptr 1 0, .ptr 2 0, .ptr 3 0]), (3, .ptr 4 0), (6, .ptr 5 0), (7, .ptr 6 0)]) (As := [.box [iV n], .box [sV to], .box [x5 l], .box [sV k], .box [U2], .box [Z7 none], .box [bV false]]) [some 0, some 1, some 2, some 3, some 4, some 5, some 6] [] (by (simp only [Weak, go_sem, List.map_append, List.map_set, *] <;> (try simp (disch := omega) only [o3]) <;> (try simp) <;> (try omega))) ?_
 refine zBb (f := 212) (caps := [.ptr 0 0, .ptr 1 0, .ptr 2 0, .ptr 3 0]) rfl (by simp only [go_sem]) (by kernel_rfl) (nx := 7) (by simp only [go_sem]) (fun fn => ⟨8, ?_⟩)
 refine x4 [7, 4, 5, 6, 0, 1, 2, 3] [] (s1 fn) (by simp) (by simp only [go_sem]) ?_ (by simp) (.inl rfl) (by simp [go_sem]) (by simp [go_sem]) ?_
 ·simp only [go_sem, *]
  first | rfl | exact ⟨rfl, rfl⟩
 ·simp only [go_sem, *]
  refine ⟨X0 fn, [(3, .ptr 4 0), (6, .ptr 5 0), (7, .ptr 6 0)], none, by simp only [go_sem], ?_⟩
  simp only [go_sem]
  refine wk1 trivial ?_
  refine ⟨[_, _], [some 0, some 1, some 2, some 3], [], ⟨rfl, rfl, trivial⟩, ?_⟩
  simp only [go_sem, *]
end Go.Abs

namespace Go.Abs
open Go
theorem ValidN.mem0 {s : Str} (v : ValidN s) : s.getD 0 0 ∈ s := by
 cases s with
 | nil => have := v.ne; simp at this
 | cons c r => simp
theorem ValidN.other {s : Str} (v : ValidN s) (h : w6 (s.getD 0 0) = false) : s.all U9 = true := by
 have hf := v.form
 unfold Y0 at hf
 rw [Bool.or_eq_true] at hf
 rcases hf with hf | hf
 ·have := List.all_eq_true.1 hf _ v.mem0
  rw [h] at this; cases this
 ·exact hf
theorem ValidN.check {s : Str} (v : ValidN s) : s9 s = 0 := checkN_zero.2 v
theorem zH8 {r : List Rule} {a b : Str} (hr : r9 r = 0) (va : ValidN a) (vb : ValidN b) : X1 r a b = 0 := by
 unfold X1
 rw [if_pos hr, if_pos va.check, vb.check]
theorem zH6 {r : List Rule} {a b : Str} (hr : r9 r = 0) (va : ValidN a) (vb : ValidN b) : (b9 r a b = 0 ∧ O2 r a b = zUH r a b ∧ zUH r a b ≤ 2 ∧ 0 ≤ zUH r a b) ∨ (b9 r a b = 11 ∧ O2 r a b = 0 ∧ zUH r a b = 9) := by
 have hp := zH8 hr va vb
 unfold O2 b9 A8 zUH
 rw [if_pos hp, if_pos hp]
 cases h : J9 r a b with
 | none => exact .inr ⟨by simp, by simp, rfl⟩
 | some c =>
  obtain ⟨m, h1, h2, _⟩ := zDx h
  refine .inl ⟨by simp, by simp, ?_, ?_⟩
  ·simp only; omega
  ·simp only; omega
end Go.Abs

namespace Go.Abs
open Go Go.Proofs Tryz
attribute [local irreducible] q9 Hold y2
variable [Cur]
theorem zME {r : List Rule} (h : r9 r = 0) : r.length ≤ 4 ∧ ∀ x, x ∈ r → x.src.length ≤ 2 ∧ x.dst.length ≤ 2 := by
 unfold r9 at h
 by_cases h4 : 4 < r.length
 ·rw [if_pos h4] at h; cases h
 ·rw [if_neg h4] at h
  by_cases ha : r.all Rule.ok = true
  ·refine ⟨by omega, fun x hx => ?_⟩
   have := List.all_eq_true.1 ha x hx
   unfold Rule.ok v7 at this
   simp only [Bool.and_eq_true, decide_eq_true_eq] at this
   exact ⟨this.1.2.1, this.2.1.2.1⟩
  ·rw [if_neg ha] at h; cases h
theorem zLo {a b : Str} (h : Z9 [a, b] = 0) : ValidN a ∧ ValidN b := by
 rw [zCw] at h
 by_cases q : s9 a = 0
 ·rw [if_pos q] at h; exact ⟨checkN_zero.1 q, checkN_zero.1 h⟩
 ·rw [if_neg q] at h; exact absurd h q
theorem zH9 {α : Type} {f : Nat → Option α} {i : Nat} (h : i < 3) : P3 f (List.range' i (3 - i)) = match f i with
  | some b => some b
  | none => P3 f (List.range' (i + 1) (3 - (i + 1))) := by
 obtain rfl | rfl | rfl : i = 0 ∨ i = 1 ∨ i = 2 := by omega
 all_goals rfl
def J7 (k : Str) (l : List Rule) (to : Str) : Option (List Str) := P3 (fun n => V2 l n k to) [0, 1, 2]
theorem zNd (k : Str) (l : List Rule) (to : Str) (hk1 : v7 k 1 12 = true) (hl : l.length ≤ 1000) (hr : ∀ r, r ∈ l → r.src.length ≤ 1000 ∧ r.dst.length ≤ 1000) :
  zSx prog 167 [sV k, x5 l, sV to] [] (.tup [Z7 (J7 k l to), bV (J7 k l to).isSome]) [] := by
 have hca : t6 prog 189 = true := by kernel_rfl
 obtain ⟨T, hT⟩ : ∃ T, J7 k l to = T := ⟨_, rfl⟩
 rw [hT]
 have h0 : P3 (fun n => V2 l n k to) (List.range' 0 (3 - 0)) = T := hT
 clear hT
 have s1 := zNe k l to
 have s2 := fun n hn => zNn k l to n hn hk1 hl hr
 clear hk1 hl hr
 refine z9 func167 rfl (fun E hE => ?_); simp only [go_sem, ntmps167]
 refine wk1 trivial ?_
 refine y9 rfl (3) (fun i => P3 (fun n => V2 l n k to) (List.range' i (3 - i)) = T) 26 (fun i => [(11, iV i), (0, sV k), (1, x5 l), (2, sV to)]) (fun i => []) [] [] (by exact h0) ?_; intro i hi hP
 clear h0
 by_cases hi2 : i < 3
 ·rw [zH9 hi2] at hP
  have s1 := s1 (i : Int)
  have s2 := s2 i (by omega)
  have hi3 : (i : Int) < 3 := by omega
  have hw : IntKind.i64.wrap ((i : Int) + 1) = ((i + 1 : Nat) : Int) := o3 (by omega)
  cases hc : V2 l i k to with
  | some c =>
   rw [hc] at hP s2
   have hP : some c = T := hP
   subst hP
   clear hc
   repeat' (first | (refine Qr rfl ?_; try intro _ hK; try simp only [go_sem, *]) | refine Qh rfl ?_ | (refine Qc rfl rfl ?_ ?_ <;> (intro hb; have hc := hb; try simp only [go_sem] at hc)) | refine z8 rfl ?_ | ((with_reducible apply And.intro); focus omega) | (refine z7 hK ?_; clear hK; simp only [go_sem, *]) | simp only [z6, z5, go_sem, *])
   refine v9 s1 ?_ (hu := by (intro j hj; simp only [List.length_cons, List.length_nil] at hj; (obtain rfl | rfl | rfl | rfl : j = 0 ∨ j = 1 ∨ j = 2 ∨ j = 3 := by omega) <;> simp [go_sem]))
   simp only [go_sem, *]
   repeat' (first | (refine Qr rfl ?_; try intro _ hK; try simp only [go_sem, *]) | refine Qh rfl ?_ | (refine Qc rfl rfl ?_ ?_ <;> (intro hb; have hc := hb; try simp only [go_sem] at hc)) | refine z8 rfl ?_ | ((with_reducible apply And.intro); focus omega) | (refine z7 hK ?_; clear hK; simp only [go_sem, *]) | simp only [z6, z5, go_sem, *])
   refine j5 [0, 1, 2, 3] s2 ?_
   simp only [go_sem, *]
   repeat' (first | (refine Qr rfl ?_; try intro _ hK; try simp only [go_sem, *]) | refine Qh rfl ?_ | (refine Qc rfl rfl ?_ ?_ <;> (intro hb; have hc := hb; try simp only [go_sem] at hc)) | refine z8 rfl ?_ | ((with_reducible apply And.intro); focus omega) | (refine z7 hK ?_; clear hK; simp only [go_sem, *]) | simp only [z6, z5, go_sem, *])
   all_goals try contradiction
   (refine ⟨[_, _], [], [], ⟨rfl, rfl, trivial⟩, ?_⟩; simp only [go_sem, *])
  | none =>
   rw [hc] at hP s2
   have hP : P3 (fun n => V2 l n k to) (List.range' (i + 1) (3 - (i + 1))) = T := hP
   clear hc
   repeat' (first | (refine Qr rfl ?_; try intro _ hK; try simp only [go_sem, *]) | refine Qh rfl ?_ | (refine Qc rfl rfl ?_ ?_ <;> (intro hb; have hc := hb; try simp only [go_sem] at hc)) | refine z8 rfl ?_ | ((with_reducible apply And.intro); focus omega) | (refine z7 hK ?_; clear hK; simp only [go_sem, *]) | simp only [z6, z5, go_sem, *])
   refine v9 s1 ?_ (hu := by (intro j hj; simp only [List.length_cons, List.length_nil] at hj; (obtain rfl | rfl | rfl | rfl : j = 0 ∨ j = 1 ∨ j = 2 ∨ j = 3 := by omega) <;> simp [go_sem]))
   simp only [go_sem, *]
   repeat' (first | (refine Qr rfl ?_; try intro _ hK; try simp only [go_sem, *]) | refine Qh rfl ?_ | (refine Qc rfl rfl ?_ ?_ <;> (intro hb; have hc := hb; try simp only [go_sem] at hc)) | refine z8 rfl ?_ | ((with_reducible apply And.intro); focus omega) | (refine z7 hK ?_; clear hK; simp only [go_sem, *]) | simp only [z6, z5, go_sem, *])
   refine j5 [0, 1, 2, 3] s2 ?_
   simp only [go_sem, *]
   repeat' (first | (refine Qr rfl ?_; try intro _ hK; try simp only [go_sem, *]) | refine Qh rfl ?_ | (refine Qc rfl rfl ?_ ?_ <;> (intro hb; have hc := hb; try simp only [go_sem] at hc)) | refine z8 rfl ?_ | ((with_reducible apply And.intro); focus omega) | (refine z7 hK ?_; clear hK; simp only [go_sem, *]) | simp only [z6, z5, go_sem, *])
   all_goals try contradiction
   exact y3 (i' := i + 1) [] [] (by exact hP)
 ·have e : 3 - i = 0 := by omega
  rw [e] at hP
  have hP : none = T := hP
  subst hP
  have hi3 : ¬ (i : Int) < 3 := by omega
  clear s1 s2
  refine wk1 trivial ?_
  (refine ⟨[_, _], [], [], ⟨rfl, rfl, trivial⟩, ?_⟩; simp only [go_sem, *])
  all_goals rfl
def J8 (r : List Rule) (a b : Str) : Option (List Str) := if X1 r a b = 0 then J9 r a b else none
theorem zCx {r : List Rule} {a b : Str} (q : r9 r = 0) : X1 r a b = Z9 [a, b] := by
 unfold X1; rw [if_pos q, zCw]
theorem zH4 {r : List Rule} {a b : Str} (h : X1 r a b = 0) : J8 r a b = J7 (zS0 a) r (zS0 b) := if_pos h
theorem zDw {r : List Rule} {a b : Str} (h : X1 r a b = 0) : b9 r a b = if (J7 (zS0 a) r (zS0 b)).isSome = true then 0 else 11 := if_pos h
theorem zH5 {r : List Rule} {a b : Str} (h : b9 r a b = 0) : ∃ c, J8 r a b = some c ∧ A8 r a b = c ∧ 1 ≤ c.length ∧ c.length ≤ 3 ∧ O2 r a b = (c.length : Int) - 1 := by
 by_cases hp : X1 r a b = 0
 ·have h2 := h
  rw [zDw hp] at h2
  cases hc : J9 r a b with
  | none =>
   have : J7 (zS0 a) r (zS0 b) = none := hc
   rw [this] at h2; cases h2
  | some c =>
   have hv : A8 r a b = c := by unfold A8; rw [if_pos hp, hc]; rfl
   obtain ⟨n, h1, h3, _⟩ := zDx hc
   refine ⟨c, by rw [J8, if_pos hp, hc], hv, by omega, by omega, ?_⟩
   unfold O2; rw [if_pos h, hv]
 ·unfold b9 at h; rw [if_neg hp] at h; exact absurd h hp
theorem zMs (r : List Rule) (a b : Str) (hl : r.length ≤ 4294967296) (hr : ∀ x, x ∈ r → x.src.length ≤ 4294967296 ∧ x.dst.length ≤ 4294967296) :
  zSx prog 140 [x5 r, sV a, sV b] [] (.tup [Z7 (J8 r a b), iV (b9 r a b)]) [] := by
 have s1 := zOQ r hl hr
 have sc : zSx prog 71 [.list [sV a, sV b]] [] (iV (Z9 [a, b])) [] := zGL [a, b] (by simp)
 by_cases q1 : r9 r = 0
 ·rw [q1] at s1
  by_cases q2 : Z9 [a, b] = 0
  ·obtain ⟨va, vb⟩ := zLo q2
   have hp : X1 r a b = 0 := by rw [zCx q1, q2]
   obtain ⟨h4, h5⟩ := zME q1
   have s2 := zBh a va.form (by have := va.len; omega)
   have s3 := zBh b vb.form (by have := vb.len; omega)
   have s4 := zNd (zS0 a) r (zS0 b) (zKs va) (by omega) (fun x hx => by have := h5 x hx; omega)
   rw [zH4 hp, zDw hp]
   rw [q2] at sc
   generalize J7 (zS0 a) r (zS0 b) = o at *
   generalize zS0 a = ka at *
   generalize zS0 b = kb at *
   clear q1 q2 va vb hp h4 h5 hl hr
   cases o with
   | none =>
    simp only [Option.isSome_none, Bool.false_eq_true, if_false] at s4 ⊢
    refine z9 func140 rfl (fun E hE => ?_); simp only [go_sem, ntmps140]
    repeat' (first | (refine Qr rfl ?_; try intro _ hK; try simp only [go_sem, *]) | refine Qh rfl ?_ | (refine Qc rfl rfl ?_ ?_ <;> (intro hb; have hc := hb; try simp only [go_sem] at hc)) | refine z8 rfl ?_ | (refine y5 (s1) ?_; simp only [go_sem, *]) | ((with_reducible apply And.intro); focus omega) | (refine z7 hK ?_; clear hK; simp only [go_sem, *]) | simp only [z6, z5, go_sem, *])
    all_goals try contradiction
    (refine V0 [0] (sc) (by simp only [go_sem, *]) (.raw _) ?_; simp only [go_sem, *])
    repeat' (first | (refine Qr rfl ?_; try intro _ hK; try simp only [go_sem, *]) | refine Qh rfl ?_ | (refine Qc rfl rfl ?_ ?_ <;> (intro hb; have hc := hb; try simp only [go_sem] at hc)) | refine z8 rfl ?_ | (refine r7 (s2) ?_ ?_; (focus (simp only [go_sem, *]; done)); simp only [go_sem, *]) | (refine r7 (s3) ?_ ?_; (focus (simp only [go_sem, *]; done)); simp only [go_sem, *]) | (refine y5 (s4) ?_; simp only [go_sem, *]) | ((with_reducible apply And.intro); focus omega) | (refine z7 hK ?_; clear hK; simp only [go_sem, *]) | simp only [z6, z5, go_sem, *])
    all_goals try contradiction
    (refine ⟨[_, _], [], [], ⟨rfl, rfl, trivial⟩, ?_⟩; simp only [go_sem, *])
   | some c =>
    simp only [Option.isSome_some, if_true] at s4 ⊢
    refine z9 func140 rfl (fun E hE => ?_); simp only [go_sem, ntmps140]
    repeat' (first | (refine Qr rfl ?_; try intro _ hK; try simp only [go_sem, *]) | refine Qh rfl ?_ | (refine Qc rfl rfl ?_ ?_ <;> (intro hb; have hc := hb; try simp only [go_sem] at hc)) | refine z8 rfl ?_ | (refine y5 (s1) ?_; simp only [go_sem, *]) | ((with_reducible apply And.intro); focus omega) | (refine z7 hK ?_; clear hK; simp only [go_sem, *]) | simp only [z6, z5, go_sem, *])
    all_goals try contradiction
    (refine V0 [0] (sc) (by simp only [go_sem, *]) (.raw _) ?_; simp only [go_sem, *])
    repeat' (first | (refine Qr rfl ?_; try intro _ hK; try simp only [go_sem, *]) | refine Qh rfl ?_ | (refine Qc rfl rfl ?_ ?_ <;> (intro hb; have hc := hb; try simp only [go_sem] at hc)) | refine z8 rfl ?_ | (refine r7 (s2) ?_ ?_; (focus (simp only [go_sem, *]; done)); simp only [go_sem, *]) | (refine r7 (s3) ?_ ?_; (focus (simp only [go_sem, *]; done)); simp only [go_sem, *]) | (refine y5 (s4) ?_; simp only [go_sem, *]) | ((with_reducible apply And.intro); focus omega) | (refine z7 hK ?_; clear hK; simp only [go_sem, *]) | simp only [z6, z5, go_sem, *])
    all_goals try contradiction
    (refine ⟨[_, _], [], [], ⟨rfl, rfl, trivial⟩, ?_⟩; simp only [go_sem, *])
  ·have hp : ¬ X1 r a b = 0 := by rw [zCx q1]; exact q2
   have e1 : J8 r a b = none := if_neg hp
   have e2 : b9 r a b = Z9 [a, b] := by unfold b9; rw [if_neg hp, zCx q1]
   rw [e1, e2]
   clear e1 e2 hp q1 hl hr
   generalize Z9 [a, b] = e at *
   refine z9 func140 rfl (fun E hE => ?_); simp only [go_sem, ntmps140]
   repeat' (first | (refine Qr rfl ?_; try intro _ hK; try simp only [go_sem, *]) | refine Qh rfl ?_ | (refine Qc rfl rfl ?_ ?_ <;> (intro hb; have hc := hb; try simp only [go_sem] at hc)) | refine z8 rfl ?_ | (refine y5 (s1) ?_; simp only [go_sem, *]) | ((with_reducible apply And.intro); focus omega) | (refine z7 hK ?_; clear hK; simp only [go_sem, *]) | simp only [z6, z5, go_sem, *])
   all_goals try contradiction
   (refine V0 [0] (sc) (by simp only [go_sem, *]) (.raw _) ?_; simp only [go_sem, *])
   repeat' (first | (refine Qr rfl ?_; try intro _ hK; try simp only [go_sem, *]) | refine Qh rfl ?_ | (refine Qc rfl rfl ?_ ?_ <;> (intro hb; have hc := hb; try simp only [go_sem] at hc)) | refine z8 rfl ?_ | ((with_reducible apply And.intro); focus omega) | (refine z7 hK ?_; clear hK; simp only [go_sem, *]) | simp only [z6, z5, go_sem, *])
   all_goals try contradiction
   (refine ⟨[_, _], [], [], ⟨rfl, rfl, trivial⟩, ?_⟩; simp only [go_sem, *])
 ·have hp : X1 r a b = r9 r := by unfold X1; rw [if_neg q1]
  have e1 : J8 r a b = none := if_neg (by rw [hp]; exact q1)
  have e2 : b9 r a b = r9 r := by unfold b9; rw [hp, if_neg q1]
  rw [e1, e2]
  clear e1 e2 hp hl hr sc
  generalize r9 r = e at *
  refine z9 func140 rfl (fun E hE => ?_); simp only [go_sem, ntmps140]
  refine wk1 s1 ?_
  (refine ⟨[_, _], [], [], ⟨rfl, rfl, trivial⟩, ?_⟩; simp only [go_sem, *])
theorem zNR (r : List Rule) (a b : Str) (hl : r.length ≤ 4294967296) (hr : ∀ x, x ∈ r → x.src.length ≤ 4294967296 ∧ x.dst.length ≤ 4294967296) :
  zSx prog 113 [x5 r, sV a, sV b] [] (.tup [iV (O2 r a b), iV (b9 r a b)]) [] := by
 have sC := zMs r a b hl hr
 clear hl hr
 by_cases q : b9 r a b = 0
 ·obtain ⟨c, h1, _, h2, h3, h4⟩ := zH5 q
  rw [h4, q]
  rw [h1, q] at sC
  have hw : IntKind.i64.wrap ((c.length : Int) - 1) = (c.length : Int) - 1 := wrap_i64 (by omega) (by omega)
  clear q h1 h4
  refine z9 func113 rfl (fun E hE => ?_); simp only [go_sem, ntmps113]
  refine wk1 sC ?_
  (refine ⟨[_, _], [], [], ⟨rfl, rfl, trivial⟩, ?_⟩; simp only [go_sem, *])
 ·have e : O2 r a b = 0 := by unfold O2; rw [if_neg q]
  rw [e]
  clear e
  generalize J8 r a b = o at *
  generalize b9 r a b = e at *
  refine z9 func113 rfl (fun E hE => ?_); simp only [go_sem, ntmps113]
  refine wk1 sC ?_
  (refine ⟨[_, _], [], [], ⟨rfl, rfl, trivial⟩, ?_⟩; simp only [go_sem, *])
theorem zDD (r : List Rule) (a b : Str) (hl : r.length ≤ 4294967296) (hr : ∀ x, x ∈ r → x.src.length ≤ 4294967296 ∧ x.dst.length ≤ 4294967296) :
  zSx prog 90 [x5 r, sV a, sV b] [] (.tup [iV (B8 r a b), iV (F0 r a b)]) [] := by
 have sU := zNR r a b hl hr
 clear hl hr
 unfold B8 F0
 generalize O2 r a b = n at *
 generalize b9 r a b = e at *
 refine z9 func90 rfl (fun E hE => ?_); simp only [go_sem, ntmps90]
 repeat' (first | (refine Qr rfl ?_; try intro _ hK; try simp only [go_sem, *]) | refine Qh rfl ?_ | (refine Qc rfl rfl ?_ ?_ <;> (intro hb; have hc := hb; try simp only [go_sem] at hc)) | refine z8 rfl ?_ | (refine y5 (sU) ?_; simp only [go_sem, *]) | ((with_reducible apply And.intro); focus omega) | (refine z7 hK ?_; clear hK; simp only [go_sem, *]) | simp only [z6, z5, go_sem, *])
 all_goals (refine ⟨[_, _], [], [], ⟨rfl, rfl, trivial⟩, ?_⟩; simp only [go_sem, *])
 all_goals simp_all
end Go.Abs

namespace Go.Abs
open Go Go.Proofs Tryz
attribute [local irreducible] q9 Hold y2
variable [Cur]
attribute [go_sem] List.length_range
abbrev pnV (n : Nat) : AV := iV (n : Int)
theorem zLt (cf : Nat → Nat → Int) (xs : List Nat) : xs = u5 cf (xs.take 1) ++ xs.drop 1 := by
 cases xs with
 | nil => rfl
 | cons x r => simp [u5, zTH, zTa]
def zBt (cf : Nat → Nat → Int) (xs cur : List Nat) (i : Nat) : Prop := cur = u5 cf (xs.take (i + 1)) ++ xs.drop (i + 1)
def NoS (_ : Nat) : Prop := True
def zAn (sec : TypeId) (ps : List AV) (N : Nat) (cf : Nat → Nat → Int) : Prop := ∀ a b : Nat, a < N → b < N → zSx prog 70 [pnV a, pnV b, .ptr 0 0, .ptr 1 0] [.box [.raw (.iface sec (.agg #[]))], .box [.list ps]] (iV (cf a b)) [.box [.raw (.iface sec (.agg #[]))], .box [.list ps]]
theorem zOL (sec : TypeId) (ps : List AV) (N : Nat) (cf : Nat → Nat → Int) (hf : zAn sec ps N cf) (xs : List Nat) (h1 : xs.length ≤ 20) (hx : ∀ x, x ∈ xs → x < N) :
  zSx prog 123 [.own 0 1 0 xs.length, iV 0, iV xs.length, .fn 70 [.ptr 1 0, .ptr 2 0]] [.row 1 (xs.map pnV), .box [.raw (.iface sec (.agg #[]))], .box [.list ps]] (.tup []) [.row 1 ((u5 cf xs).map pnV), .box [.raw (.iface sec (.agg #[]))], .box [.list ps]] := by
 have hca : t6 prog 70 = true := by kernel_rfl
 refine z9 func123 rfl (fun E hE => ?_); simp only [go_sem, ntmps123]
 have hw0 : IntKind.i64.wrap 1 = (1 : Int) := wrap_i64 (by omega) (by omega)
 repeat' (first | (refine Qr rfl ?_; try intro _ hK; try simp only [go_sem, *]) | (refine Qi rfl rfl rfl rfl ?_ ?_ <;> (intro hb; (try intro _ hK); have hc := hb; try simp only [go_sem] at hc; simp only [go_sem, *])) | refine Qh rfl ?_ | refine Qd rfl (by kernel_rfl) ?_ | (refine Qc rfl rfl ?_ ?_ <;> (intro hb; have hc := hb; try simp only [go_sem] at hc)) | refine z8 rfl ?_ | (refine Qb ?_ ?_; focus kernel_rfl) | ((with_reducible apply And.intro); focus omega) | (refine z7 hK ?_; clear hK; simp only [go_sem, *]) | simp only [z6, z5, go_sem, *])
 refine Q7 rfl (xs.length) (fun i (cur : List Nat) => zBt cf xs cur i) 53 (fun i cur => [(8, iV ((i : Int) + 1)), (0, .own 0 1 0 xs.length), (1, iV 0), (2, iV xs.length), (3, .fn 70 [.ptr 1 0, .ptr 2 0])]) (fun i cur => [.row 1 (cur.map pnV), .box [.raw (.iface sec (.agg #[]))], .box [.list ps]]) [some 0, some 1, some 2] [] (xs) (by exact zLt cf xs) ?_; intro i cur hi hP
 have hw : i < xs.length → IntKind.i64.wrap ((i : Int) + 1 + 1) = (((i + 1 : Nat) : Int) + 1) := fun h => by rw [wrap_i64 (by omega) (by omega)]; omega
 have hcm : ((i : Int) + 1 < (xs.length : Int)) = (i + 1 < xs.length) := by simp only [eq_iff_iff]; omega
 repeat' (first | (refine Qr rfl ?_; try intro _ hK; try simp only [go_sem, *]) | (refine Qi rfl rfl rfl rfl ?_ ?_ <;> (intro hb; (try intro _ hK); have hc := hb; try simp only [go_sem] at hc; simp only [go_sem, *])) | refine Qh rfl ?_ | refine Qd rfl (by kernel_rfl) ?_ | (refine Qc rfl rfl ?_ ?_ <;> (intro hb; have hc := hb; try simp only [go_sem] at hc)) | refine z8 rfl ?_ | (refine Qb ?_ ?_; focus kernel_rfl) | ((with_reducible apply And.intro); focus omega) | (refine z7 hK ?_; clear hK; simp only [go_sem, *]) | simp only [z6, z5, go_sem, *])
 ·have hlt : i + 1 < xs.length := by assumption
  have hlt' : i < xs.length := by omega
  obtain ⟨S, hS⟩ : ∃ S, S = u5 cf (xs.take (i + 1)) := ⟨_, rfl⟩
  have hSl : S.length = i + 1 := by rw [hS, H7]; simp; try omega
  obtain ⟨x, hxx⟩ : ∃ x, x = xs.getD (i + 1) default := ⟨_, rfl⟩
  obtain ⟨R, hR⟩ : ∃ R, R = xs.drop (i + 1 + 1) := ⟨_, rfl⟩
  have hxl : x < N := by rw [hxx]; exact hx _ (j9 hlt)
  have hSm : ∀ k, k < S.length → S.getD k default < N := fun k hk => by
   have h2 : S.getD k default ∈ S := j9 hk
   rw [hS] at h2
   have h3 := (L5 cf (xs.take (i + 1))).mem_iff.1 h2
   rw [← hS] at h3
   exact hx _ (List.mem_of_mem_take h3)
  have hcur : cur = S ++ x :: R := by
   unfold zBt at hP
   rw [hP, hS, hxx, hR, u4 hlt]
  have hfin : zTH cf S x ++ R = u5 cf (xs.take (i + 1 + 1)) ++ xs.drop (i + 1 + 1) := by
   rw [hS, hxx, hR, zGo hlt, zFA]
  have hst : InsP cf S x R cur 0 := by rw [hcur]; exact InsP.start cf S x R
  have hRl : R.length = xs.length - (i + 2) := by rw [hR]; simp; try omega
  clear hS hxx hR hcur hP
  refine Q7 rfl (i + 1) (fun d (cur : List Nat) => InsP cf S x R cur d) 53 (fun d cur => [(9, iV (((i + 1) - d : Nat) : Int)), (8, iV ((i : Int) + 1)), (0, .own 0 1 0 xs.length), (1, iV 0), (2, iV xs.length), (3, .fn 70 [.ptr 1 0, .ptr 2 0])]) (fun d cur => [.row 1 (cur.map pnV), .box [.raw (.iface sec (.agg #[]))], .box [.list ps]]) [some 0, some 1, some 2] [] (cur) (by exact hst) ?_; intro d cur hd hQ
  have hcl : cur.length = xs.length := by rw [hQ.1, zD3]; omega
  have gx : cur.getD (i + 1 - d) default = x := by rw [hQ.1, ← hSl]; exact zD4 S x R (by omega)
  have gy : d < i + 1 → cur.getD (i + 1 - d - 1) default = S.getD (i + 1 - d - 1) default := fun h => by rw [hQ.1, ← hSl]; exact zD5 S x R (by omega)
  have hwk : 0 < i + 1 - d → IntKind.i64.wrap (((i + 1 - d : Nat) : Int) - 1) = ((i + 1 - d - 1 : Nat) : Int) := fun h => by rw [wrap_i64 (by omega) (by omega)]; omega
  have hnx : i + 1 - (d + 1) = i + 1 - d - 1 := by omega
  have hkl : i + 1 - d < xs.length := by omega
  have hkl1 : i + 1 - d - 1 < xs.length := by omega
  have hd1 : 0 < i + 1 - d → d < i + 1 := fun h => by omega
  by_cases hd2 : d < i + 1
  ·have sf := hf x (S.getD (i + 1 - d - 1) default) hxl (hSm _ (by omega))
   have gy2 := gy hd2
   clear hf gy
   repeat' (first | (refine Qr rfl ?_; try intro _ hK; try simp only [go_sem, *]) | (refine Qi rfl rfl rfl rfl ?_ ?_ <;> (intro hb; (try intro _ hK); have hc := hb; try simp only [go_sem] at hc; simp only [go_sem, *])) | refine Qh rfl ?_ | refine Qd rfl (by kernel_rfl) ?_ | (refine Qc rfl rfl ?_ ?_ <;> (intro hb; have hc := hb; try simp only [go_sem] at hc)) | refine z8 rfl ?_ | (refine Qb ?_ ?_; focus kernel_rfl) | (refine j5 [1, 2] (sf) ?_; simp only [go_sem, *]) | ((with_reducible apply And.intro); focus omega) | (refine z7 hK ?_; clear hK; simp only [go_sem, *]) | simp only [z6, z5, go_sem, *])
   all_goals try (exfalso; omega)
   ·exact t7 (i' := d + 1) [some 0, some 1, some 2] [] ((cur.set (i + 1 - d) (S.getD (i + 1 - d - 1) default)).set (i + 1 - d - 1) x) (by have := InsP.next cf hQ (by omega) (by rw [hSl]; assumption); rwa [hSl] at this)
   ·have hs := InsP.stop cf hQ (by omega) (fun _ => by rw [hSl]; omega)
    exact t7 (i' := i + 1) [some 0, some 1, some 2] [] (cur) (by rw [hs]; exact hfin)
  ·have hs := InsP.stop cf hQ (by omega) (fun h => by omega)
   clear hf gy
   repeat' (first | (refine Qr rfl ?_; try intro _ hK; try simp only [go_sem, *]) | (refine Qi rfl rfl rfl rfl ?_ ?_ <;> (intro hb; (try intro _ hK); have hc := hb; try simp only [go_sem] at hc; simp only [go_sem, *])) | refine Qh rfl ?_ | refine Qd rfl (by kernel_rfl) ?_ | (refine Qc rfl rfl ?_ ?_ <;> (intro hb; have hc := hb; try simp only [go_sem] at hc)) | refine z8 rfl ?_ | (refine Qb ?_ ?_; focus kernel_rfl) | ((with_reducible apply And.intro); focus omega) | (refine z7 hK ?_; clear hK; simp only [go_sem, *]) | simp only [z6, z5, go_sem, *])
   all_goals try (exfalso; omega)
   exact t7 (i' := i + 1) [some 0, some 1, some 2] [] (cur) (by rw [hs]; exact hfin)
 ·refine ⟨[], [some 0, some 1, some 2], [], trivial, ?_⟩
  have e1 : xs.take (i + 1) = xs := List.take_of_length_le (by omega)
  have e2 : xs.drop (i + 1) = [] := l5 (by omega)
  unfold zBt at hP
  rw [e1, e2, List.append_nil] at hP
  rw [hP]
  simp only [go_sem, W4, *]
theorem zOM (sec : TypeId) (ps : List AV) (N : Nat) (cf : Nat → Nat → Int) (hf : zAn sec ps N cf) (xs : List Nat) (h1 : xs.length ≤ 12) (hx : ∀ x, x ∈ xs → x < N) :
  zSx prog 97 [.own 0 1 0 xs.length, iV xs.length, .fn 70 [.ptr 1 0, .ptr 2 0]] [.row 1 (xs.map pnV), .box [.raw (.iface sec (.agg #[]))], .box [.list ps]] (.tup []) [.row 1 ((u5 cf xs).map pnV), .box [.raw (.iface sec (.agg #[]))], .box [.list ps]] := by
 have si := zOL sec ps N cf hf xs (by omega) hx
 have hli : ((u5 cf xs).map pnV).length = xs.length := by simp [H7]
 generalize u5 cf xs = ys at *
 clear hf hx
 have g1 : ¬ ((20 : Int) ≤ (xs.length : Int)) := by omega
 have g2 : ¬ ((20 : Int) < (xs.length : Int)) := by omega
 have g3 : IntKind.i64.wrap ((20 : Int) + 20) = 40 := by decide
 refine z9 func97 rfl (fun E hE => ?_); simp only [go_sem, ntmps97]
 repeat' (first | (refine Qr rfl ?_; try intro _ hK; try simp only [go_sem, *]) | refine Qh rfl ?_ | (refine Qc rfl rfl ?_ ?_ <;> (intro hb; have hc := hb; try simp only [go_sem] at hc)) | refine z8 rfl ?_ | ((with_reducible apply And.intro); focus omega) | (refine z7 hK ?_; clear hK; simp only [go_sem, *]) | simp only [z6, z5, go_sem, *])
 refine y9 rfl (1) (fun i => NoS i) 63 (fun i => [(8, iV 20), (7, iV 0), (6, iV 20), (0, .own 0 1 0 xs.length), (1, iV xs.length), (2, .fn 70 [.ptr 1 0, .ptr 2 0])]) (fun i => [.row 1 (xs.map pnV), .box [.raw (.iface sec (.agg #[]))], .box [.list ps]]) [some 0, some 1, some 2] [] (by trivial) ?_; intro i hi hP
 repeat' (first | (refine Qr rfl ?_; try intro _ hK; try simp only [go_sem, *]) | refine Qh rfl ?_ | (refine Qc rfl rfl ?_ ?_ <;> (intro hb; have hc := hb; try simp only [go_sem] at hc)) | refine z8 rfl ?_ | (refine j5 [0, 1, 2] (si) ?_; simp only [go_sem, *]) | ((with_reducible apply And.intro); focus omega) | (refine z7 hK ?_; clear hK; simp only [go_sem, *]) | simp only [z6, z5, go_sem, *])
 all_goals try (exfalso; omega)
 refine y9 rfl (1) (fun i => NoS i) 63 (fun i => [(6, iV 20), (0, .own 0 1 0 xs.length), (1, iV xs.length), (2, .fn 70 [.ptr 1 0, .ptr 2 0])]) (fun i => [.row 1 (ys.map pnV), .box [.raw (.iface sec (.agg #[]))], .box [.list ps]]) [some 0, some 1, some 2] [] (by trivial) ?_; intro i hi hP
 repeat' (first | (refine Qr rfl ?_; try intro _ hK; try simp only [go_sem, *]) | refine Qh rfl ?_ | (refine Qc rfl rfl ?_ ?_ <;> (intro hb; have hc := hb; try simp only [go_sem] at hc)) | refine z8 rfl ?_ | ((with_reducible apply And.intro); focus omega) | (refine z7 hK ?_; clear hK; simp only [go_sem, *]) | simp only [z6, z5, go_sem, *])
 all_goals try (exfalso; omega)
 refine ⟨[], [some 0, some 1, some 2], [], trivial, ?_⟩
 simp only [go_sem, W4, *]
theorem zOH (sec : TypeId) (ps : List AV) (N : Nat) (cf : Nat → Nat → Int) (hf : zAn sec ps N cf) (xs : List Nat) (h1 : xs.length ≤ 12) (hx : ∀ x, x ∈ xs → x < N) :
  zSx prog 69 [.own 0 1 0 xs.length, .fn 70 [.ptr 1 0, .ptr 2 0]] [.row 1 (xs.map pnV), .box [.raw (.iface sec (.agg #[]))], .box [.list ps]] (.tup []) [.row 1 ((u5 cf xs).map pnV), .box [.raw (.iface sec (.agg #[]))], .box [.list ps]] := by
 have si := zOM sec ps N cf hf xs h1 hx
 generalize u5 cf xs = ys at *
 clear hf hx
 refine z9 func69 rfl (fun E hE => ?_); simp only [go_sem, ntmps69]
 repeat' (first | (refine Qr rfl ?_; try intro _ hK; try simp only [go_sem, *]) | refine Qh rfl ?_ | (refine Qc rfl rfl ?_ ?_ <;> (intro hb; have hc := hb; try simp only [go_sem] at hc)) | refine z8 rfl ?_ | (refine j5 [0, 1, 2] (si) ?_; simp only [go_sem, *]) | ((with_reducible apply And.intro); focus omega) | (refine z7 hK ?_; clear hK; simp only [go_sem, *]) | simp only [z6, z5, go_sem, *])
 refine ⟨[], [some 0, some 1, some 2], [], trivial, ?_⟩
 simp only [go_sem, W4, *]
end Go.Abs

namespace Go.Abs
open Go Go.Proofs Tryz
attribute [local irreducible] q9 Hold y2
variable [Cur]
omit [Cur] in
theorem zMa {l : List Nat} {a b : Nat} (ha : a < l.length) (hb : b < l.length) : ((l.set a (l.getD b 0)).set b (l.getD a 0)).Perm l := by
 have e1 : l.getD b 0 = l[b] := by simp [List.getD, hb]
 have e2 : l.getD a 0 = l[a] := by simp [List.getD, ha]
 rw [e1, e2]
 exact List.set_set_perm ha hb
theorem zEA (d : Dice) (n : Nat) (hn : 1 ≤ n ∧ n ≤ 1000) (h : DOk d) : ∃ (l : List Nat) (d' : Dice), zSx prog 61 [.ptr 0 0, iV n] [y4 d] (.own 1 1 0 n) [y4 d', .row 1 (l.map pnV)] ∧ l.Perm (List.range n) ∧ DOk d' := by
 obtain ⟨q, hq0, hqR, hqG⟩ := zAY (S := List Nat × Dice) (n - 1) (List.range n, d) (fun i s s' => ∃ k : Nat, k < n ∧ zSx prog 27 [.ptr 0 0, iV ((n - 1 - i : Nat) : Int)] [y4 s.2] (iV k) [y4 s'.2] ∧ s'.1 = (s.1.set (n - 1 - i) (s.1.getD k 0)).set k (s.1.getD (n - 1 - i) 0))
  (fun _ s => s.1.Perm (List.range n) ∧ DOk s.2) ⟨.refl _, h⟩ (fun i s hi ⟨hp, hd⟩ => by
   obtain ⟨k, d1, st, hk, _, hd1⟩ := I8 s.2 ((n - 1 - i : Nat) : Int) hd (by omega)
   have hk := hk (by omega)
   have hl : s.1.length = n := by rw [hp.length_eq]; simp
   exact ⟨((s.1.set (n - 1 - i) (s.1.getD k 0)).set k (s.1.getD (n - 1 - i) 0), d1), ⟨k, by omega, st, rfl⟩, (zMa (by omega) (by omega)).trans hp, hd1⟩)
 have hl : ∀ i, i ≤ n - 1 → (q i).1.length = n := fun i hi => by rw [(hqG i hi).1.length_eq]; simp
 refine ⟨(q (n - 1)).1, (q (n - 1)).2, ?_, (hqG _ (Nat.le_refl _)).1, (hqG _ (Nat.le_refl _)).2⟩
 clear hqG
 have hr0 : List.range 0 = [] := rfl
 refine z9 func61 rfl (fun E hE => ?_); simp only [go_sem, ntmps61]
 refine wk1 trivial ?_
 refine y9 rfl (n) (fun i => NoS i) 44 (fun i => [(6, iV i), (5, .own 1 1 0 i), (0, .ptr 0 0), (1, iV n)]) (fun i => [y4 d, .row 1 ((List.range i).map pnV)]) [some 0, none] [] (by trivial) ?_; intro i hi hP
 rcases Nat.lt_or_ge i n with hi2 | hi2
 ·have hd1 : decide ((i : Int) < (n : Int)) = true := by simp; omega
  have hd2 : decide (i < n) = true := by simp; omega
  clear hq0 hqR hl
  refine wk1 trivial ?_
  clear hd1 hd2
  have e : (List.range (i + 1)).map pnV = (List.range i).map pnV ++ [pnV i] := by rw [List.range_succ, List.map_append]; rfl
  exact y3 (i' := i + 1) [some 0, some 3] [] (by trivial)
 ·have he : i = n := by omega
  subst he
  have hd1 : decide ((i : Int) < (i : Int)) = false := by simp
  have hd2 : decide (i < i) = false := by simp
  have hw0 : IntKind.i64.wrap ((i : Int) - 1) = ((i - 1 : Nat) : Int) := by rw [wrap_i64 (by omega) (by omega)]; omega
  refine wk1 trivial ?_
  clear hd1 hd2
  refine y9 rfl (i - 1) (fun r => NoS r) 44 (fun r => [(7, iV ((i - 1 - r : Nat) : Int)), (5, .own 1 1 0 i), (0, .ptr 0 0)]) (fun r => [y4 (q r).2, .row 1 ((q r).1.map pnV)]) [some 0, some 1] [] (by trivial) ?_; intro r hr hP
  clear hq0 hw0
  rcases Nat.lt_or_ge r (i - 1) with hr2 | hr2
  ·obtain ⟨k, hk, st, hs⟩ := hqR r hr2
   have hlr := hl r hr
   have hm : i - 1 - r < i := by omega
   have hd1 : decide (((i - 1 - r : Nat) : Int) > 0) = true := by simp; omega
   have hd2 : decide (0 < i - 1 - r) = true := by simp; omega
   have hw2 : IntKind.i64.wrap (((i - 1 - r : Nat) : Int) - 1) = ((i - 1 - (r + 1) : Nat) : Int) := by rw [wrap_i64 (by omega) (by omega)]; omega
   obtain ⟨l, d1, hq1⟩ : ∃ l d1, q r = (l, d1) := ⟨_, _, rfl⟩
   obtain ⟨l', d2, hq2⟩ : ∃ l' d2, q (r + 1) = (l', d2) := ⟨_, _, rfl⟩
   rw [hq1] at hlr st hs ⊢
   rw [hq2] at st hs
   simp only at hlr st hs ⊢
   have g1 : (l.map pnV).getD k AV.any = pnV (l.getD k 0) := by simp [List.getD, show k < l.length by omega]
   have g2 : (l.map pnV).getD (i - 1 - r) AV.any = pnV (l.getD (i - 1 - r) 0) := by simp [List.getD, show i - 1 - r < l.length by omega]
   clear hl hqR
   generalize hmm : i - 1 - r = m at *
   have e : l'.map pnV = ((l.map pnV).set m (pnV (l.getD k 0))).set k (pnV (l.getD m 0)) := by rw [hs, List.map_set, List.map_set]
   clear hs
   refine wk1 (own [0] (st)) ?_
   clear hd1 hd2 g1 g2
   exact y3 (i' := r + 1) [some 0, some 1] [] (by trivial)
  ·have he : r = i - 1 := by omega
   subst he
   have hz : i - 1 - (i - 1) = 0 := Nat.sub_self _
   simp only [hz]
   clear hl hqR
   refine wk1 trivial ?_
   refine ⟨[_], [some 0, some 1], [], ⟨rfl, trivial⟩, ?_⟩
   simp only [go_sem, *]
end Go.Abs

namespace Go.Abs
open Go Go.Proofs Tryz
attribute [local irreducible] q9 Hold y2
variable [Cur]
def zTQ (n : Int) : List Int → Nat → Int
 | [], _ => -1
 | x :: r, i => if x = n then i else zTQ n r (i + 1)
omit [Cur] in
theorem zE2 (n : Int) : ∀ (l : List Int) (i : Nat), (0 ≤ zTQ n l i ↔ n ∈ l)
 | [], i => by simp [zTQ]
 | x :: r, i => by
  rw [zTQ]
  by_cases h : x = n
  ·rw [if_pos h]; simp [h]
  ·rw [if_neg h, zE2 n r (i + 1)]; simp [Ne.symm h]
omit [Cur] in
theorem zCY (n : Int) : ∀ (l : List Int) (i m : Nat), n ∈ l → zTQ n l i < ((i + m : Nat) : Int) → n ∈ l.take m
 | [], i, m, h, _ => by simp at h
 | x :: r, i, m, h, h2 => by
  rw [zTQ] at h2
  cases m with
  | zero =>
   exfalso
   by_cases e : x = n
   ·rw [if_pos e] at h2; omega
   ·rw [if_neg e] at h2
    have := zCY n r (i + 1) 0 (by simpa [Ne.symm e] using h)
    have hlb : ∀ (l : List Int) (i : Nat), n ∈ l → (i : Int) ≤ zTQ n l i := by
     intro l
     induction l with
     | nil => intro i h; cases h
     | cons y s ih =>
      intro i h
      rw [zTQ]
      by_cases e : y = n
      ·rw [if_pos e]; exact Int.le_refl _
      ·rw [if_neg e]
       have := ih (i + 1) (by simpa [Ne.symm e] using h)
       omega
    have := hlb r (i + 1) (by simpa [Ne.symm e] using h)
    omega
  | succ m =>
   by_cases e : x = n
   ·simp [e]
   ·rw [if_neg e] at h2
    rw [List.take_succ_cons]
    exact List.mem_cons_of_mem _ (zCY n r (i + 1) m (by simpa [Ne.symm e] using h) (by rw [show i + 1 + m = i + (m + 1) by omega]; exact h2))
theorem zN4 (l : List Int) (n : Int) (h1 : l.length ≤ 4294967296) : zSx prog 8 [.list (l.map iV), iV n] [] (iV (zTQ n l 0)) [] := by
 obtain ⟨R, hR⟩ : ∃ R, zTQ n (l.drop 0) 0 = R := ⟨_, rfl⟩
 have hR1 : zTQ n l 0 = R := hR
 rw [hR1]
 clear hR1
 refine z9 func8 rfl (fun E hE => ?_); simp only [go_sem, ntmps8]
 refine wk1 trivial ?_
 refine y9 rfl (l.length) (fun i => zTQ n (l.drop i) i = R) 19 (fun i => [(5, iV i), (0, .list (l.map iV)), (1, iV n)]) (fun i => []) [] [] (by exact hR) ?_; intro i hi hP
 clear hR
 by_cases hi : i < l.length
 ·have hi3 : (i : Int) < l.length := by omega
  rw [u4 hi, zTQ] at hP
  generalize hz : l.getD i default = z at *
  by_cases hq : z = n
  ·rw [if_pos hq] at hP
   subst hP hq
   refine wk1 trivial ?_
   (refine ⟨[_], [], [], ⟨rfl, trivial⟩, ?_⟩; simp only [go_sem, *])
  ·rw [if_neg hq] at hP
   refine wk1 trivial ?_
   exact y3 (i' := i + 1) [] [] (by exact hP)
 ·have hi3 : ¬ (i : Int) < l.length := by omega
  rw [l5 (by omega), zTQ] at hP
  subst hP
  have hw : IntKind.i64.wrap (-1) = (-1 : Int) := wrap_i64 (by omega) (by omega)
  refine wk1 trivial ?_
  (refine ⟨[_], [], [], ⟨rfl, trivial⟩, ?_⟩; simp only [go_sem, *])
def zS4 (x : Nat) (l : List Nat) : Int := zTQ x (l.map fun k : Nat => (k : Int)) 0
omit [Cur] in
theorem zCZ {x : Nat} {l : List Nat} : 0 ≤ zS4 x l ↔ x ∈ l := by
 unfold zS4
 rw [zE2, List.mem_map]
 exact ⟨fun ⟨y, h, e⟩ => by rw [show x = y by omega]; exact h, fun h => ⟨x, h, rfl⟩⟩
omit [Cur] in
theorem zKb {x : Nat} {l : List Nat} {m : Nat} (h : x ∈ l) (h2 : zS4 x l < m) : x ∈ l.take m := by
 have := zCY x (l.map fun k : Nat => (k : Int)) 0 m (List.mem_map.2 ⟨x, h, rfl⟩) (by unfold zS4 at h2; simpa using h2)
 rw [← List.map_take, List.mem_map] at this
 obtain ⟨y, h, e⟩ := this
 rw [show x = y by omega]; exact h
theorem zDF (x : Nat) (l : List Nat) (hl : l.length ≤ 4294967296) : zSx prog 8 [.list (l.map pnV), iV x] [] (iV (zS4 x l)) [] := by
 have := zN4 (l.map fun k : Nat => (k : Int)) x (by simpa using hl)
 rw [List.map_map] at this
 exact this
omit [Cur] in
theorem zLp {l : List Nat} {n m : Nat} (hp : l.Perm (List.range n)) : ((List.range n).filter fun i => decide (zS4 i l < (m : Int))).length ≤ m := by
 have hnd : l.Nodup := hp.nodup_iff.2 List.nodup_range
 have h1 : ((List.range n).filter fun i => decide (zS4 i l < (m : Int))).length = (l.filter fun i => decide (zS4 i l < (m : Int))).length := ((hp.filter _).length_eq).symm
 rw [h1]
 have h2 : (l.drop m).filter (fun i => decide (zS4 i l < (m : Int))) = [] := by
  rw [List.filter_eq_nil_iff]
  intro x hx
  have hxl := List.mem_of_mem_drop hx
  intro h
  have ht := zKb hxl (of_decide_eq_true h)
  have := List.nodup_append.1 ((List.take_append_drop m l).symm ▸ hnd)
  exact this.2.2 x ht x hx rfl
 have h3 : l.filter (fun i => decide (zS4 i l < (m : Int))) = (l.take m).filter (fun i => decide (zS4 i l < (m : Int))) := by
  have e := List.filter_append (p := fun i => decide (zS4 i l < (m : Int))) (l.take m) (l.drop m)
  rw [h2, List.append_nil, List.take_append_drop] at e
  exact e
 rw [h3]
 have := List.length_filter_le (fun i => decide (zS4 i l < (m : Int))) (l.take m)
 simp only [List.length_take] at this
 omega
def PaP (l : List Nat) (m i : Nat) (B : List Nat) : Prop := B = (List.range i).filter (fun i => decide (zS4 i l < (m : Int))) ∧ B.length ≤ i
theorem zIU (d : Dice) (n m : Nat) (hn : 1 ≤ n ∧ n ≤ 1000) (hm : m ≤ 1000) (h : DOk d) : ∃ (ws : List Nat) (d' : Dice), zSx prog 63 [.ptr 0 0, iV n, iV m] [y4 d] (.own 1 1 0 ws.length) [y4 d', .row 1 (ws.map pnV)] ∧
  ws.Pairwise (· < ·) ∧ (∀ x, x ∈ ws → x < n) ∧ ws.length ≤ m ∧ DOk d' := by
 obtain ⟨l, d', so, hp, hd⟩ := zEA d n hn h
 refine ⟨(List.range n).filter fun i => decide (zS4 i l < (m : Int)), d', ?_, List.Pairwise.filter _ List.pairwise_lt_range, fun x hx => List.mem_range.1 (List.mem_filter.1 hx).1, zLp hp, hd⟩
 have hll : l.length = n := by rw [hp.length_eq]; simp
 have si := fun x => zDF x l (by omega)
 have ht : List.take n (l.map pnV) = l.map pnV := List.take_of_length_le (by simp; omega)
 clear hp
 refine z9 func63 rfl (fun E hE => ?_); simp only [go_sem, ntmps63]
 refine wk1 (own [0] (so)) ?_
 clear so
 refine Q7 rfl (n) (fun i (B : List Nat) => PaP l m i B) 30 (fun i B => [(9, iV i), (8, .own 2 1 0 B.length), (7, .own 1 1 0 n), (0, .ptr 0 0), (1, iV n), (2, iV m)]) (fun i B => [y4 d', .row 1 (l.map pnV), .row 1 (B.map pnV)]) [some 0, some 1, none] [] (([] : List Nat)) (by exact ⟨rfl, Nat.le_refl _⟩) ?_; intro i B hi hP
 obtain ⟨hB, hBi⟩ := hP
 rcases Nat.lt_or_ge i n with hi2 | hi2
 ·have hd1 : decide ((i : Int) < (n : Int)) = true := by simp; omega
  have hd2 : decide (i < n) = true := by simp; omega
  have sx := si i
  have hn1 : decide (zS4 i l < (m : Int)) = true → PaP l m (i + 1) (B ++ [i]) := fun h => ⟨by rw [List.range_succ, List.filter_append, ← hB, List.filter_cons, if_pos h, List.filter_nil], by simp; omega⟩
  have hn2 : decide (zS4 i l < (m : Int)) = false → PaP l m (i + 1) B := fun h => ⟨by rw [List.range_succ, List.filter_append, ← hB, List.filter_cons, if_neg (by rw [h]; decide), List.filter_nil, List.append_nil], by omega⟩
  clear hB si
  generalize zS4 i l = at_ at *
  repeat' (first | (refine Qr rfl ?_; try intro _ hK; try simp only [go_sem, *]) | refine Qh rfl ?_ | (refine Qc rfl rfl ?_ ?_ <;> (intro hb; have hc := hb; try simp only [go_sem] at hc)) | refine z8 rfl ?_ | ((with_reducible apply And.intro); focus omega) | (refine z7 hK ?_; clear hK; simp only [go_sem, *]) | simp only [z6, z5, go_sem, *])
  all_goals try contradiction
  (refine V0 [1] (sx) (by simp only [go_sem, *]) (.raw _) ?_; simp only [go_sem, *])
  by_cases hq : at_ < (m : Int)
  ·have hn3 := hn1 (by simpa using hq)
   have hd3 : decide (at_ < (m : Int)) = true := by simpa using hq
   clear hn1 hn2
   repeat' (first | (refine Qr rfl ?_; try intro _ hK; try simp only [go_sem, *]) | refine Qh rfl ?_ | (refine Qc rfl rfl ?_ ?_ <;> (intro hb; have hc := hb; try simp only [go_sem] at hc)) | refine z8 rfl ?_ | ((with_reducible apply And.intro); focus omega) | (refine z7 hK ?_; clear hK; simp only [go_sem, *]) | simp only [z6, z5, go_sem, *])
   all_goals try contradiction
   clear hd1 hd2 hd3
   exact t7 (i' := i + 1) [some 0, some 1, some 4] [] (B ++ [i]) (by exact hn3)
  ·have hn3 := hn2 (by simpa using hq)
   have hd3 : decide (at_ < (m : Int)) = false := by simpa using hq
   clear hn1 hn2
   repeat' (first | (refine Qr rfl ?_; try intro _ hK; try simp only [go_sem, *]) | refine Qh rfl ?_ | (refine Qc rfl rfl ?_ ?_ <;> (intro hb; have hc := hb; try simp only [go_sem] at hc)) | refine z8 rfl ?_ | ((with_reducible apply And.intro); focus omega) | (refine z7 hK ?_; clear hK; simp only [go_sem, *]) | simp only [z6, z5, go_sem, *])
   all_goals try contradiction
   clear hd1 hd2 hd3
   exact t7 (i' := i + 1) [some 0, some 1, some 2] [] (B) (by exact hn3)
 ·have he : i = n := by omega
  subst he
  have hd1 : decide ((i : Int) < (i : Int)) = false := by simp
  have hd2 : decide (i < i) = false := by simp
  rw [← hB]
  clear hB si
  refine wk1 trivial ?_
  refine ⟨[_], [some 0, some 2], [1], ⟨rfl, trivial⟩, ?_⟩
  simp only [go_sem, *]
end Go.Abs

namespace Go.Abs
open Go Go.Proofs Tryz
attribute [local irreducible] q9 Hold y2
variable [Cur]
theorem zMu (l : List Plate) (h1 : l.length ≤ 4294967296) : zSx prog 220 [.list (l.map Plate.enc)] [] (.own 0 2 0 l.length) [.row 2 (l.map Plate.enc)] := by
 cases l with
 | nil =>
  refine zDI (fun a c => ?_)
  refine z9 func220 rfl (fun E hE => ?_); simp only [go_sem, ntmps220]
  repeat' (first | (refine Qr rfl ?_; try intro _ hK; try simp only [go_sem, *]) | refine Qh rfl ?_ | (refine Qc rfl rfl ?_ ?_ <;> (intro hb; have hc := hb; try simp only [go_sem] at hc)) | refine z8 rfl ?_ | ((with_reducible apply And.intro); focus omega) | (refine z7 hK ?_; clear hK; simp only [go_sem, *]) | simp only [z6, z5, go_sem, *])
  ·refine ⟨[_], [none], [], ⟨rfl, trivial⟩, ?_⟩
   simp only [go_sem, *]
   simp
  ·refine ⟨[_], [some 1], [], ⟨rfl, trivial⟩, ?_⟩
   simp only [go_sem, *]
 | cons x r =>
  have h2 : r.length + 1 ≤ 4294967296 := by simpa using h1
  refine z9 func220 rfl (fun E hE => ?_); simp only [go_sem, ntmps220]
  repeat' (first | (refine Qr rfl ?_; try intro _ hK; try simp only [go_sem, *]) | refine Qh rfl ?_ | (refine Qc rfl rfl ?_ ?_ <;> (intro hb; have hc := hb; try simp only [go_sem] at hc)) | refine z8 rfl ?_ | ((with_reducible apply And.intro); focus omega) | (refine z7 hK ?_; clear hK; simp only [go_sem, *]) | simp only [z6, z5, go_sem, *])
  all_goals try contradiction
  refine ⟨fun y hy => ?_, fun y hy => ?_, by omega, by omega, ?_⟩
  ·obtain ⟨z, _, rfl⟩ := List.mem_map.1 hy
   simp [go_sem]
  ·obtain ⟨z, _, rfl⟩ := List.mem_map.1 hy
   simp [go_sem]
  ·repeat' (first | (refine Qr rfl ?_; try intro _ hK; try simp only [go_sem, *]) | refine Qh rfl ?_ | (refine Qc rfl rfl ?_ ?_ <;> (intro hb; have hc := hb; try simp only [go_sem] at hc)) | refine z8 rfl ?_ | ((with_reducible apply And.intro); focus omega) | (refine z7 hK ?_; clear hK; simp only [go_sem, *]) | simp only [z6, z5, go_sem, *])
   refine ⟨[_], [some 1], [], ⟨rfl, trivial⟩, ?_⟩
   simp only [go_sem, *]
theorem zMt (l : List House) (h1 : l.length ≤ 4294967296) : zSx prog 173 [.list (l.map House.enc)] [] (.own 0 3 0 l.length) [.row 3 (l.map House.enc)] := by
 cases l with
 | nil =>
  refine zDI (fun a c => ?_)
  refine z9 func173 rfl (fun E hE => ?_); simp only [go_sem, ntmps173]
  repeat' (first | (refine Qr rfl ?_; try intro _ hK; try simp only [go_sem, *]) | refine Qh rfl ?_ | (refine Qc rfl rfl ?_ ?_ <;> (intro hb; have hc := hb; try simp only [go_sem] at hc)) | refine z8 rfl ?_ | ((with_reducible apply And.intro); focus omega) | (refine z7 hK ?_; clear hK; simp only [go_sem, *]) | simp only [z6, z5, go_sem, *])
  ·refine ⟨[_], [none], [], ⟨rfl, trivial⟩, ?_⟩
   simp only [go_sem, *]
   simp
  ·refine ⟨[_], [some 1], [], ⟨rfl, trivial⟩, ?_⟩
   simp only [go_sem, *]
 | cons x r =>
  have h2 : r.length + 1 ≤ 4294967296 := by simpa using h1
  refine z9 func173 rfl (fun E hE => ?_); simp only [go_sem, ntmps173]
  repeat' (first | (refine Qr rfl ?_; try intro _ hK; try simp only [go_sem, *]) | refine Qh rfl ?_ | (refine Qc rfl rfl ?_ ?_ <;> (intro hb; have hc := hb; try simp only [go_sem] at hc)) | refine z8 rfl ?_ | ((with_reducible apply And.intro); focus omega) | (refine z7 hK ?_; clear hK; simp only [go_sem, *]) | simp only [z6, z5, go_sem, *])
  all_goals try contradiction
  refine ⟨fun y hy => ?_, fun y hy => ?_, by omega, by omega, ?_⟩
  ·obtain ⟨z, _, rfl⟩ := List.mem_map.1 hy
   simp [go_sem]
  ·obtain ⟨z, _, rfl⟩ := List.mem_map.1 hy
   simp [go_sem]
  ·repeat' (first | (refine Qr rfl ?_; try intro _ hK; try simp only [go_sem, *]) | refine Qh rfl ?_ | (refine Qc rfl rfl ?_ ?_ <;> (intro hb; have hc := hb; try simp only [go_sem] at hc)) | refine z8 rfl ?_ | ((with_reducible apply And.intro); focus omega) | (refine z7 hK ?_; clear hK; simp only [go_sem, *]) | simp only [z6, z5, go_sem, *])
   refine ⟨[_], [some 1], [], ⟨rfl, trivial⟩, ?_⟩
   simp only [go_sem, *]
def zT6 (l : List House) (x : House) : Int := if x ∈ l then (l.idxOf x : Nat) else -1
theorem zE1 {l : List House} {x : House} (h : x ∈ l) : zT6 l x = (l.idxOf x : Nat) := by simp [zT6, h]
theorem zE0 {l : List House} {x : House} (hn : x ∉ l) : zT6 l x = -1 := by simp [zT6, hn]
theorem zOv {l : List House} {i : Nat} {x : House} (h : i < l.length) (hn : x ∉ l.take i) (hx : ¬ l.getD i default = x) : x ∉ l.take (i + 1) := by
 rw [List.take_add_one]
 simp only [List.getD_eq_getElem?_getD, List.getElem?_eq_getElem h, Option.getD_some] at hx
 simp only [List.getElem?_eq_getElem h, Option.toList_some, List.mem_append, List.mem_singleton, not_or]
 exact ⟨hn, fun e => hx e.symm⟩
theorem zKa {l : List House} {i : Nat} {x : House} (h : i < l.length) (hn : x ∉ l.take i) (hx : l.getD i default = x) : zT6 l x = i := by
 have hg : l.drop i = x :: l.drop (i + 1) := by rw [u4 h, hx]
 have hl : l = l.take i ++ x :: l.drop (i + 1) := by rw [← hg, List.take_append_drop]
 have hm : x ∈ l := by rw [hl]; simp
 rw [zE1 hm]
 conv => lhs; rw [hl]
 rw [List.idxOf_append, if_neg hn]
 simp; omega
theorem zNE (l : List House) (x : House) (h1 : l.length ≤ 4294967296) : zSx prog 146 [.list (l.map House.enc), x.enc] [] (iV (zT6 l x)) [] := by
 refine z9 func146 rfl (fun E hE => ?_); simp only [go_sem, ntmps146]
 repeat' (first | (refine Qr rfl ?_; try intro _ hK; try simp only [go_sem, *]) | refine Qh rfl ?_ | refine Qd rfl (by kernel_rfl) ?_ | (refine Qc rfl rfl ?_ ?_ <;> (intro hb; have hc := hb; try simp only [go_sem] at hc)) | refine z8 rfl ?_ | (refine Qb ?_ ?_; focus kernel_rfl) | ((with_reducible apply And.intro); focus omega) | (refine z7 hK ?_; clear hK; simp only [go_sem, *]) | simp only [z6, z5, go_sem, *])
 refine y9 rfl (l.length) (fun i => x ∉ l.take i) 19 (fun i => [(8, iV i), (7, iV l.length), (3, .ptr 0 0), (0, .list (l.map House.enc))]) (fun i => [.box [iV x.street, iV x.plate.number, iV x.plate.letter]]) [some 0] [] (by simp) ?_; intro i hi hP
 repeat' (first | (refine Qr rfl ?_; try intro _ hK; try simp only [go_sem, *]) | refine Qh rfl ?_ | refine Qd rfl (by kernel_rfl) ?_ | (refine Qc rfl rfl ?_ ?_ <;> (intro hb; have hc := hb; try simp only [go_sem] at hc)) | refine z8 rfl ?_ | (refine Qb ?_ ?_; focus kernel_rfl) | ((with_reducible apply And.intro); focus omega) | (refine z7 hK ?_; clear hK; simp only [go_sem, *]) | simp only [z6, z5, go_sem, *])
 ·(refine ⟨[_], [], [], ⟨rfl, trivial⟩, ?_⟩; simp only [go_sem, *])
  have e : x = l.getD i default := by assumption
  rw [← e]
  exact S1 (zKa (by assumption) hP e.symm)
 ·exact y3 (i' := i + 1) [some 0] [] (by exact zOv (by assumption) hP (fun e => absurd e.symm (by assumption)))
 ·(refine ⟨[_], [], [], ⟨rfl, trivial⟩, ?_⟩; simp only [go_sem, *])
  rw [List.take_of_length_le (by omega)] at hP
  rw [zE0 hP]
theorem zDB (l : List House) (x : House) (h1 : l.length ≤ 4294967296) : zSx prog 120 [.list (l.map House.enc), x.enc] [] (bV (decide (x ∈ l))) [] := by
 refine z9 func120 rfl (fun E hE => ?_); simp only [go_sem, ntmps120]
 repeat' (first | (refine Qr rfl ?_; try intro _ hK; try simp only [go_sem, *]) | refine Qh rfl ?_ | (refine Qc rfl rfl ?_ ?_ <;> (intro hb; have hc := hb; try simp only [go_sem] at hc)) | refine z8 rfl ?_ | (refine y5 (zNE l x h1) ?_; simp only [go_sem, *]) | ((with_reducible apply And.intro); focus omega) | (refine z7 hK ?_; clear hK; simp only [go_sem, *]) | simp only [z6, z5, go_sem, *])
 (refine ⟨[_], [], [], ⟨rfl, trivial⟩, ?_⟩; simp only [go_sem, *])
 refine zB3 ?_
 by_cases hm : x ∈ l
 ·simp [zE1 hm, hm]
 ·simp [zE0 hm, hm]
theorem zMv (l : List House) (h1 : l.length ≤ 4294967296) (hn : l.Nodup) : zSx prog 176 [.own 0 3 0 l.length] [.row 3 (l.map House.enc)] (.own 0 3 0 l.length) [.row 3 (l.map House.enc)] := by
 have hne : ∀ i, i + 1 < l.length → ¬ l.getD (i + 1) default = l.getD i default := fun i hi e => by
  have e1 : l.getD (i + 1) default = l[i + 1] := by simp [List.getD, hi]
  have e2 : l.getD i default = l[i] := by simp [List.getD, show i < l.length by omega]
  rw [e1, e2] at e
  have := (zBP hn).1 e
  omega
 refine z9 func176 rfl (fun E hE => ?_); simp only [go_sem, ntmps176]
 repeat' (first | (refine Qr rfl ?_; try intro _ hK; try simp only [go_sem, *]) | refine Qh rfl ?_ | refine Qd rfl (by kernel_rfl) ?_ | (refine Qc rfl rfl ?_ ?_ <;> (intro hb; have hc := hb; try simp only [go_sem] at hc)) | refine z8 rfl ?_ | (refine Qb ?_ ?_; focus kernel_rfl) | ((with_reducible apply And.intro); focus omega) | (refine z7 hK ?_; clear hK; simp only [go_sem, *]) | simp only [z6, z5, go_sem, *])
 ·refine ⟨[_], [some 0], [], ⟨rfl, trivial⟩, ?_⟩
  simp only [go_sem, *]
 ·refine y9 rfl (l.length - 1) (fun i => NoP i) 61 (fun i => [(3, iV ((i : Int) + 1)), (0, .own 0 3 0 l.length)]) (fun i => [.row 3 (l.map House.enc)]) [some 0] [] (by trivial) ?_; intro i hi hP
  have hw1 : i + 1 < l.length → IntKind.i64.wrap ((i : Int) + 1 - 1) = (i : Int) := fun h => by rw [wrap_i64 (by omega) (by omega)]; omega
  have hw2 : i + 1 < l.length → IntKind.i64.wrap ((i : Int) + 1 + 1) = (((i + 1 : Nat) : Int) + 1) := fun h => by rw [wrap_i64 (by omega) (by omega)]; omega
  have hlt : ((i : Int) + 1 < (l.length : Int)) = (i + 1 < l.length) := by simp only [eq_iff_iff]; omega
  have htn : ((i : Int) + 1).toNat = i + 1 := by omega
  by_cases h2 : i + 1 < l.length
  ·have h3 : i < l.length := by omega
   have hne := hne i h2
   have hne' : decide (l.getD (i + 1) default = l.getD i default) = false := by simpa using hne
   repeat' (first | (refine Qr rfl ?_; try intro _ hK; try simp only [go_sem, *]) | refine Qh rfl ?_ | refine Qd rfl (by kernel_rfl) ?_ | (refine Qc rfl rfl ?_ ?_ <;> (intro hb; have hc := hb; try simp only [go_sem] at hc)) | refine z8 rfl ?_ | (refine Qb ?_ ?_; focus kernel_rfl) | ((with_reducible apply And.intro); focus omega) | (refine z7 hK ?_; clear hK; simp only [go_sem, *]) | simp only [z6, z5, go_sem, *])
   all_goals try contradiction
   exact y3 (i' := i + 1) [some 0] [] (by trivial)
  ·repeat' (first | (refine Qr rfl ?_; try intro _ hK; try simp only [go_sem, *]) | refine Qh rfl ?_ | refine Qd rfl (by kernel_rfl) ?_ | (refine Qc rfl rfl ?_ ?_ <;> (intro hb; have hc := hb; try simp only [go_sem] at hc)) | refine z8 rfl ?_ | (refine Qb ?_ ?_; focus kernel_rfl) | ((with_reducible apply And.intro); focus omega) | (refine z7 hK ?_; clear hK; simp only [go_sem, *]) | simp only [z6, z5, go_sem, *])
   refine ⟨[_], [some 0], [], ⟨rfl, trivial⟩, ?_⟩
   simp only [go_sem, *]
theorem zKo {xs : List House} (hn : xs.Nodup) : Strict (u5 zTX xs) := by
 have h1 := zKn zTX zLl xs
 have h2 : (u5 zTX xs).Nodup := (L5 zTX xs).nodup_iff.2 hn
 refine (h1.and h2).imp (fun {a b} h => ?_)
 rcases House.lt_tri a b with h3 | h3 | h3
 ·exact h3
 ·exact absurd h3 h.2
 ·exact absurd ((zCC b a).2 h3) h.1
theorem zCe {xs : List House} (hn : xs.Nodup) : u5 zTX xs = V7 xs :=
 zGj (zKo hn) (zOu xs) (fun z => by rw [(L5 zTX xs).mem_iff, mem_sortH])
theorem zOT (l : List House) (hn : l.Nodup) (h12 : l.length ≤ 12) : zSx prog 145 [.list (l.map House.enc)] [] (.list ((V7 l).map House.enc)) [] := by
 have hcal : t6 prog 175 = true := by kernel_rfl
 have ss := zNP hcal (fun a b => zNl a b) l h12
 rw [zCe hn] at ss
 have hl : (V7 l).length = l.length := by rw [← zCe hn]; exact (L5 zTX l).length_eq
 have hns : (V7 l).Nodup := by rw [← zCe hn]; exact (L5 zTX l).nodup_iff.2 hn
 have sc := zMv (V7 l) (by omega) hns
 rw [hl] at sc
 have hl2 : l.length ≤ (V7 l).length := by omega
 have hl3 : (V7 l).length ≤ l.length := by omega
 clear hl hns
 have hcl := zMt l (by omega)
 refine z9 func145 rfl (fun E hE => ?_); simp only [go_sem, ntmps145]
 repeat' (first | (refine Qr rfl ?_; try intro _ hK; try simp only [go_sem, *]) | refine Qh rfl ?_ | (refine Qc rfl rfl ?_ ?_ <;> (intro hb; have hc := hb; try simp only [go_sem] at hc)) | refine z8 rfl ?_ | (refine v9 (hcl) ?_; simp only [go_sem, *]) | ((with_reducible apply And.intro); focus omega) | (refine z7 hK ?_; clear hK; simp only [go_sem, *]) | simp only [z6, z5, go_sem, *])
 refine x4 [0] [] ss (by simp) (by simp only [go_sem, *]) (by simp only [go_sem, AObj.live, *]) (by simp) (.inl rfl) (by simp [go_sem]) (by simp) ?_
 simp only [go_sem, *]
 repeat' (first | (refine Qr rfl ?_; try intro _ hK; try simp only [go_sem, *]) | refine Qh rfl ?_ | (refine Qc rfl rfl ?_ ?_ <;> (intro hb; have hc := hb; try simp only [go_sem] at hc)) | refine z8 rfl ?_ | ((with_reducible apply And.intro); focus omega) | (refine z7 hK ?_; clear hK; simp only [go_sem, *]) | simp only [z6, z5, go_sem, *])
 refine x4 [0] [] sc (by simp) (by simp only [go_sem, *]) (by simp only [go_sem, AObj.live, *]) (by simp) (.inl rfl) (by simp [go_sem]) (by simp) ?_
 simp only [go_sem, *]
 repeat' (first | (refine Qr rfl ?_; try intro _ hK; try simp only [go_sem, *]) | refine Qh rfl ?_ | (refine Qc rfl rfl ?_ ?_ <;> (intro hb; have hc := hb; try simp only [go_sem] at hc)) | refine z8 rfl ?_ | ((with_reducible apply And.intro); focus omega) | (refine z7 hK ?_; clear hK; simp only [go_sem, *]) | simp only [z6, z5, go_sem, *])
 refine ⟨[_], [], [0], ⟨rfl, trivial⟩, ?_⟩
 simp only [go_sem, *]
 exact (List.take_of_length_le (by simpa using hl3)).symm
end Go.Abs

namespace Go.Abs
open Go Go.Proofs Tryz
attribute [local irreducible] q9 Hold y2
variable [Cur]
def zPf (f g : House → List House) (h : House) : List House := V7 ((f h).flatMap g)
end Go.Abs

namespace Go.Abs
open Go Go.Proofs Tryz
attribute [local irreducible] q9 Hold y2
variable [Cur]
def zG9 : List Change → Int
 | [] => 0
 | c :: r => if zTf c.kind 1 7 = true then zG9 r else 8
def W6 (s : Story) : AObj := .box [.list (s.first.map x7), .list (s.steps.map zCJ), .list (s.facts.map Fact.enc), .list ((x6 s.first).map House.enc)]
attribute [go_sem] W6
end Go.Abs

namespace Go.Abs
open Go Go.Proofs Tryz
attribute [local irreducible] q9 Hold y2
variable [Cur]
structure Truth where
 ways : List Int
 fin : zS2
 now : House → List House
@[reducible] def Truth.enc (p : zS2) (t : Truth) : AV := .agg [.list (t.ways.map iV), .list (t.fin.map x7), .fmap (L6 p) (U5 p t.now)]
attribute [go_sem] Truth.enc
def O8 (l : List Fact) (t : Truth) : Bool := l.all fun f => decide (f.dst ∈ t.now f.src)
theorem zI0 {l : List Fact} {t : Truth} {i : Nat} (h : i < l.length) : O8 (l.drop i) t = (decide ((l.getD i default).dst ∈ t.now (l.getD i default).src) && O8 (l.drop (i + 1)) t) := by
 rw [u4 h]; simp [O8]
theorem zNo (s : Story) (t : Truth) (v : Valid s.first) (hf : s.facts.length ≤ 1000) (hsrc : ∀ f, f ∈ s.facts → f.src ∈ x6 s.first) (hnl : ∀ h, h ∈ x6 s.first → (t.now h).length ≤ 1000) (b : Bool) (hb0 : O8 (s.facts.drop 0) t = b) :
  zSx prog 198 [.ptr 0 0, t.enc s.first] [W6 s] (bV b) [W6 s] := by
 have hw := v.wf
 refine z9 func198 rfl (fun E hE => ?_); simp only [go_sem, ntmps198]
 repeat' (first | (refine Qr rfl ?_; try intro _ hK; try simp only [go_sem, *]) | refine Qh rfl ?_ | refine Qd rfl (by kernel_rfl) ?_ | (refine Qc rfl rfl ?_ ?_ <;> (intro hb; have hc := hb; try simp only [go_sem] at hc)) | refine z8 rfl ?_ | (refine Qb ?_ ?_; focus kernel_rfl) | ((with_reducible apply And.intro); focus omega) | (refine z7 hK ?_; clear hK; simp only [go_sem, *]) | simp only [z6, z5, go_sem, *])
 refine y9 rfl (s.facts.length) (fun i => O8 (s.facts.drop i) t = b) 27 (fun i => [(13, iV i), (12, iV s.facts.length), (11, .list (s.facts.map Fact.enc)), (3, .ptr 1 0)]) (fun i => [W6 s, .box [.list (t.ways.map iV), .list (t.fin.map x7), .fmap (L6 s.first) (U5 s.first t.now)]]) [some 0, some 1] [] (by exact hb0) ?_; intro i hi hP
 by_cases hi2 : i < s.facts.length
 ·rw [zI0 hi2] at hP
  have hm := hsrc _ (j9 hi2)
  have hl := hnl _ hm
  have hwf := hw _ hm
  have sc := zDB (t.now (s.facts.getD i default).src) (s.facts.getD i default).dst (by omega)
  by_cases q : (s.facts.getD i default).dst ∈ t.now (s.facts.getD i default).src
  ·have q' : decide ((s.facts.getD i default).dst ∈ t.now (s.facts.getD i default).src) = true := by simpa using q
   rw [q', Bool.true_and] at hP
   rw [q'] at sc
   clear q q'
   repeat' (first | (refine Qr rfl ?_; try intro _ hK; try simp only [go_sem, *]) | refine Qh rfl ?_ | refine Qd rfl (by kernel_rfl) ?_ | (refine Qc rfl rfl ?_ ?_ <;> (intro hb; have hc := hb; try simp only [go_sem] at hc)) | refine z8 rfl ?_ | (refine Qb ?_ ?_; focus kernel_rfl) | ((with_reducible apply And.intro); focus omega) | (refine z7 hK ?_; clear hK; simp only [go_sem, *]) | simp only [z6, z5, go_sem, *])
   refine zCq (h := (s.facts.getD i default).src) (hs := x6 s.first) (F := zTe t.now) hw hwf ?_
   rw [if_pos hm, zTe]
   repeat' (first | (refine Qr rfl ?_; try intro _ hK; try simp only [go_sem, *]) | refine Qh rfl ?_ | refine Qd rfl (by kernel_rfl) ?_ | (refine Qc rfl rfl ?_ ?_ <;> (intro hb; have hc := hb; try simp only [go_sem] at hc)) | refine z8 rfl ?_ | (refine Qb ?_ ?_; focus kernel_rfl) | (refine y5 (sc) ?_; simp only [go_sem, *]) | ((with_reducible apply And.intro); focus omega) | (refine z7 hK ?_; clear hK; simp only [go_sem, *]) | simp only [z6, z5, go_sem, *])
   all_goals try contradiction
   exact y3 (i' := i + 1) [some 0, some 1] [] (by exact hP)
  ·have q' : decide ((s.facts.getD i default).dst ∈ t.now (s.facts.getD i default).src) = false := by simpa using q
   rw [q', Bool.false_and] at hP
   rw [q'] at sc
   clear q q'
   subst hP
   repeat' (first | (refine Qr rfl ?_; try intro _ hK; try simp only [go_sem, *]) | refine Qh rfl ?_ | refine Qd rfl (by kernel_rfl) ?_ | (refine Qc rfl rfl ?_ ?_ <;> (intro hb; have hc := hb; try simp only [go_sem] at hc)) | refine z8 rfl ?_ | (refine Qb ?_ ?_; focus kernel_rfl) | ((with_reducible apply And.intro); focus omega) | (refine z7 hK ?_; clear hK; simp only [go_sem, *]) | simp only [z6, z5, go_sem, *])
   refine zCq (h := (s.facts.getD i default).src) (hs := x6 s.first) (F := zTe t.now) hw hwf ?_
   rw [if_pos hm, zTe]
   repeat' (first | (refine Qr rfl ?_; try intro _ hK; try simp only [go_sem, *]) | refine Qh rfl ?_ | refine Qd rfl (by kernel_rfl) ?_ | (refine Qc rfl rfl ?_ ?_ <;> (intro hb; have hc := hb; try simp only [go_sem] at hc)) | refine z8 rfl ?_ | (refine Qb ?_ ?_; focus kernel_rfl) | (refine y5 (sc) ?_; simp only [go_sem, *]) | ((with_reducible apply And.intro); focus omega) | (refine z7 hK ?_; clear hK; simp only [go_sem, *]) | simp only [z6, z5, go_sem, *])
   all_goals try contradiction
   refine ⟨[_], [some 0], [], ⟨rfl, trivial⟩, ?_⟩
   simp only [go_sem, *]
 ·rw [l5 (by omega)] at hP
  subst hP
  repeat' (first | (refine Qr rfl ?_; try intro _ hK; try simp only [go_sem, *]) | refine Qh rfl ?_ | refine Qd rfl (by kernel_rfl) ?_ | (refine Qc rfl rfl ?_ ?_ <;> (intro hb; have hc := hb; try simp only [go_sem] at hc)) | refine z8 rfl ?_ | (refine Qb ?_ ?_; focus kernel_rfl) | ((with_reducible apply And.intro); focus omega) | (refine z7 hK ?_; clear hK; simp only [go_sem, *]) | simp only [z6, z5, go_sem, *])
  refine ⟨[_], [some 0], [], ⟨rfl, trivial⟩, ?_⟩
  simp only [go_sem, *]
  simp [O8]
end Go.Abs

namespace Go.Abs
open Go
instance : Inhabited Truth := ⟨⟨[], [], fun _ => []⟩⟩
def zDX (s : Story) (k : Nat) : List Change := s.steps.getD k default
def stepT (t : Truth) (c : Change) (i : Nat) : Truth := ⟨t.ways ++ [(i : Int)], zHT t.fin c, zPf t.now (mv t.fin c)⟩
def H3 (s : Story) : Nat → Truth → List Truth
 | 0, t => if O8 s.facts t = true then [t] else []
 | n + 1, t => (List.range' 0 (zDX s t.ways.length).length).flatMap fun i => if can t.fin ((zDX s t.ways.length).getD i default) = 0 then H3 s n (stepT t ((zDX s t.ways.length).getD i default) i) else []
theorem zEo {s : Story} {t : Truth} : H3 s 0 t = if O8 s.facts t = true then [t] else [] := by rw [H3]
def j8 (s : Story) : Truth := ⟨[], s.first, fun h => [h]⟩
def zG0 (s : Story) : List Truth := H3 s s.steps.length (j8 s)
structure TOk (s : Story) (n : Nat) (t : Truth) : Prop where
 steps : t.ways.length + n = s.steps.length
 val : Valid t.fin
 town : t.fin.length = s.first.length
 strict : ∀ h, h ∈ x6 s.first → Strict (t.now h)
 mem : ∀ h, h ∈ x6 s.first → ∀ x, x ∈ t.now h → x ∈ x6 t.fin
 len : ∀ h, h ∈ x6 s.first → (t.now h).length ≤ 2 ^ t.ways.length
theorem zIx {s : Story} (v : Valid s.first) : TOk s s.steps.length (j8 s) where
 steps := by simp [j8]
 val := v
 town := rfl
 strict := fun h _ => by simp [j8]
 mem := fun h hh x hx => by
  have : x = h := by simpa [j8] using hx
  rw [this]; exact hh
 len := fun h _ => by simp [j8]
theorem TOk.small {s : Story} {n : Nat} {t : Truth} (o : TOk s n t) (h3 : s.steps.length ≤ 3) {h : House} (hh : h ∈ x6 s.first) : (t.now h).length ≤ 8 := by
 have h1 := o.len h hh
 have h2 : t.ways.length ≤ 3 := by have := o.steps; omega
 have : 2 ^ t.ways.length ≤ 2 ^ 3 := Nat.pow_le_pow_right (by omega) h2
 omega
structure Told (s : Story) : Prop where
 first : Valid s.first
 steps : s.steps.length ≤ 3
 ways : ∀ w, w ∈ s.steps → 0 < w.length ∧ w.length ≤ 3 ∧ zG9 w = 0
 facts : s.facts.length ≤ 4
 fact : ∀ f, f ∈ s.facts → f.src ∈ x6 s.first ∧ zTf f.dst.street 0 (s.first.length - 1) = true ∧ f.dst.plate.ok = true
end Go.Abs

namespace Go.Abs
open Go
end Go.Abs

namespace Go.Abs
open Go
end Go.Abs

namespace Go.Abs
open Go
structure Move where
 src : House
 dst : House
 deriving DecidableEq, Inhabited
@[reducible] def Move.enc (m : Move) : AV := .agg [iV m.src.street, iV m.src.plate.number, iV m.src.plate.letter, iV m.dst.street, iV m.dst.plate.number, iV m.dst.plate.letter]
attribute [go_sem] Move.enc
end Go.Abs

namespace Go.Abs
open Go Go.Proofs Tryz
attribute [local irreducible] q9 Hold y2
variable [Cur]
section
variable {P : Program} {E : Env} {Q : Exit → AS → Prop} {σ : AS} {p : List Nat} {b c : Code} {l : Nat}
end
@[go_sem] theorem zQe (H : Nat → AObj) (m : List (Option Nat)) (ex : List Nat) (x y : AV) (p : zS2) : XpL H m ex (List.map x7 p ++ [x]) (List.map x7 p ++ [y]) ↔ XpF H m ex x y :=
 zBw _ (fun z hz => by
  obtain ⟨l, _, rfl⟩ := List.mem_map.1 hz
  simp only [XpF])
theorem zNm (p : zS2) (v : Valid p) : zSx prog 203 [H0 p] [] (H0 p) [] := by
 have hp3 := v.len
 refine z9 func203 rfl (fun E hE => ?_); simp only [go_sem, ntmps203]
 repeat' (first | (refine Qr rfl ?_; try intro _ hK; try simp only [go_sem, *]) | refine Qh rfl ?_ | refine Qd rfl (by kernel_rfl) ?_ | (refine Qc rfl rfl ?_ ?_ <;> (intro hb; have hc := hb; try simp only [go_sem] at hc)) | refine z8 rfl ?_ | (refine Qb ?_ ?_; focus kernel_rfl) | ((with_reducible apply And.intro); focus omega) | (refine z7 hK ?_; clear hK; simp only [go_sem, *]) | simp only [z6, z5, go_sem, *])
 refine y9 rfl (p.length) (fun i => NoP i) 23 (fun i => [(10, iV i), (9, iV p.length), (8, .list (p.map x7)), (2, .ptr 0 0), (3, .ptr 1 0)]) (fun i => [.box [zUm], .box [.own 2 1 0 i], .box ((p.take i).map x7)]) [some 1, some 2, none] [] (by trivial) ?_; intro i hi hP
 by_cases hi2 : i < p.length
 ·have hr := (v.rows _ (j9 hi2)).len
  have sc := zMu (p.getD i default) (by omega)
  have e := zGn (l := p) (i := i) hi2
  repeat' (first | (refine Qr rfl ?_; try intro _ hK; try simp only [go_sem, *]) | refine Qh rfl ?_ | refine Qd rfl (by kernel_rfl) ?_ | (refine Qc rfl rfl ?_ ?_ <;> (intro hb; have hc := hb; try simp only [go_sem] at hc)) | refine z8 rfl ?_ | (refine Qb ?_ ?_; focus kernel_rfl) | (refine v9 (sc) ?_; simp only [go_sem, *]) | ((with_reducible apply And.intro); focus omega) | (refine z7 hK ?_; clear hK; simp only [go_sem, *]) | simp only [z6, z5, go_sem, *])
  exact y3 (i' := i + 1) [some 0, some 1, some 5] [3] (by trivial)
 ·have e : p.take i = p := List.take_of_length_le (by omega)
  repeat' (first | (refine Qr rfl ?_; try intro _ hK; try simp only [go_sem, *]) | refine Qh rfl ?_ | refine Qd rfl (by kernel_rfl) ?_ | (refine Qc rfl rfl ?_ ?_ <;> (intro hb; have hc := hb; try simp only [go_sem] at hc)) | refine z8 rfl ?_ | (refine Qb ?_ ?_; focus kernel_rfl) | ((with_reducible apply And.intro); focus omega) | (refine z7 hK ?_; clear hK; simp only [go_sem, *]) | simp only [z6, z5, go_sem, *])
  refine ⟨[.agg [.own 2 1 0 i]], [], [2], ⟨by simp only [Z2, go_sem], trivial⟩, ?_⟩
  simp only [go_sem, *]
  simp
  omega
end Go.Abs

namespace Go.Abs
open Go Go.Proofs Tryz
attribute [local irreducible] q9 Hold y2
variable [Cur]
noncomputable def zDt : Code := sub [0, 1, 0, 1, 1, 1, 1] (O4 Tryz.f144)
noncomputable def O3 (fn : FuncId) : LoopK := ⟨fn, #[19], B0 zDt, B1 zDt, 26⟩
theorem zQE (fn : FuncId) (p : zS2) (t : Truth) (acc : List Truth) (h : acc.length ≤ 1000) :
  U0 prog [t.enc p] [.loopo (O3 fn) [(7, .ptr 1 0)] (some none), .box [.own 2 3 0 acc.length], .row 3 (acc.map (Truth.enc p))] (bV true)
   [.loopo (O3 fn) [(7, .ptr 1 0)] (some none), .box [.own 3 3 0 (acc ++ [t]).length], .dead, .row 3 ((acc ++ [t]).map (Truth.enc p))] := by
 refine A0 (L := O3 fn) (env := [(7, .ptr 1 0)]) (j := none) rfl rfl (fun E l hE => ?_)
 refine X2 rfl ?_
 simp only [O3, V5, go_sem]
 repeat' (first | (refine Qr (ops := _ :: _) rfl ?_; try intro _ hK; try simp only [go_sem, *]) | (refine Qi rfl rfl rfl rfl ?_ ?_ <;> (intro hb; (try intro _ hK); have hc := hb; try simp only [go_sem] at hc; simp only [go_sem, *])) | (refine Qb ?_ ?_; focus kernel_rfl) | ((with_reducible apply And.intro); focus omega) | (refine z7 hK ?_; clear hK; simp only [go_sem, *]) | simp only [z6, z5, go_sem, *])
 refine l7 ?_
 refine ⟨by simp only [go_sem], ?_⟩
 refine C8 (id := 1) rfl ?_
 refine X2 rfl ?_
 simp only [go_sem]
 repeat' (first | (refine Qr (ops := _ :: _) rfl ?_; try intro _ hK; try simp only [go_sem, *]) | (refine Qi rfl rfl rfl rfl ?_ ?_ <;> (intro hb; (try intro _ hK); have hc := hb; try simp only [go_sem] at hc; simp only [go_sem, *])) | (refine Qb ?_ ?_; focus kernel_rfl) | ((with_reducible apply And.intro); focus omega) | (refine z7 hK ?_; clear hK; simp only [go_sem, *]) | simp only [z6, z5, go_sem, *])
 refine l7 ?_
 refine ⟨by simp only [go_sem], rfl, [some 0, some 1, some 2, some 5], [], ?_⟩
 simp only [go_sem, *]
 simp [lkV, XpF]
end Go.Abs

namespace Go.Abs
open Go Go.Proofs Tryz
attribute [local irreducible] q9 Hold y2
variable [Cur]
abbrev zEl : AV := .fn 197 [.ptr 0 0, .ptr 1 0, .ptr 2 0]
noncomputable def zEm (fn : FuncId) (s : Story) (acc : List Truth) : List AObj :=
 [.box [.ptr 3 0], .box [.yld 4], .box [zEl], W6 s, .loopo (O3 fn) [(7, .ptr 5 0)] (some none), .box [.own 6 3 0 acc.length], .row 3 (acc.map (Truth.enc s.first))]
noncomputable def zEn (fn : FuncId) (s : Story) (acc : List Truth) : List AObj :=
 [.box [.ptr 3 0], .box [.yld 4], .box [zEl], W6 s, .loopo (O3 fn) [(7, .ptr 5 0)] (some none), .box [.own 7 3 0 acc.length], .dead, .row 3 (acc.map (Truth.enc s.first))]
attribute [go_sem] zEm zEn
theorem zNp (fn : FuncId) (s : Story) (o0 : Told s) (t : Truth) (o : TOk s 0 t) (acc : List Truth) (ha : acc.length ≤ 1000) :
  zSx prog 197 [t.enc s.first, .ptr 0 0, .ptr 1 0, .ptr 2 0] (zEm fn s acc) (bV true) (zEn fn s (acc ++ H3 s 0 t)) := by
 have hst := o.steps
 have hst2 : ((t.ways.length : Int) == (s.steps.length : Int)) = true := by simp; omega
 have hfl := o0.facts
 have hsrc : ∀ f, f ∈ s.facts → f.src ∈ x6 s.first := fun f hf => (o0.fact f hf).1
 have hnl : ∀ h, h ∈ x6 s.first → (t.now h).length ≤ 1000 := fun h hh => by have := o.small o0.steps hh; omega
 have sf := fun b hb => zNo s t o0.first (by omega) hsrc hnl b hb
 have sy := zQE fn s.first t acc ha
 rw [zEo]
 by_cases q : O8 s.facts t = true
 ·rw [if_pos q]
  have sf1 := sf true q
  clear sf q
  refine z9 func197 rfl (fun E hE => ?_); simp only [go_sem, ntmps197]
  repeat' (first | (refine Qr rfl ?_; try intro _ hK; try simp only [go_sem, *]) | (refine Qi rfl rfl rfl rfl ?_ ?_ <;> (intro hb; (try intro _ hK); have hc := hb; try simp only [go_sem] at hc; simp only [go_sem, *])) | refine Qh rfl ?_ | refine Qd rfl (by kernel_rfl) ?_ | (refine Qb ?_ ?_; focus kernel_rfl) | ((with_reducible apply And.intro); focus omega) | (refine z7 hK ?_; clear hK; simp only [go_sem, *]) | simp only [z6, z5, go_sem, *])
  refine zAW rfl ⟨true, by simp only [go_sem, *], fun _ => ?_, fun e => by cases e⟩
  refine zBc rfl ?_
  refine zAX 7 rfl rfl rfl ?_
  simp only [List.take_succ_cons, List.take_zero, List.drop_succ_cons, List.drop_zero]
  repeat' (first | (refine Qr (ops := _ :: _) rfl ?_; try intro _ hK; try simp only [go_sem, *]) | (refine Qi rfl rfl rfl rfl ?_ ?_ <;> (intro hb; (try intro _ hK); have hc := hb; try simp only [go_sem] at hc; simp only [go_sem, *])) | (refine Qb ?_ ?_; focus kernel_rfl) | ((with_reducible apply And.intro); focus omega) | (refine z7 hK ?_; clear hK; simp only [go_sem, *]) | simp only [z6, z5, go_sem, *])
  refine x4 [3] [] sf1 (by simp) (by simp only [go_sem]) (by simp only [go_sem]) (by simp) (.inl rfl) (by simp [go_sem]) (by simp [go_sem]) ?_
  simp only [go_sem]
  repeat' (first | (refine Qr (ops := _ :: _) rfl ?_; try intro _ hK; try simp only [go_sem, *]) | (refine Qi rfl rfl rfl rfl ?_ ?_ <;> (intro hb; (try intro _ hK); have hc := hb; try simp only [go_sem] at hc; simp only [go_sem, *])) | (refine Qb ?_ ?_; focus kernel_rfl) | ((with_reducible apply And.intro); focus omega) | (refine z7 hK ?_; clear hK; simp only [go_sem, *]) | simp only [z6, z5, go_sem, *])
  refine l7 ?_
  refine zCV rfl rfl (by simp only [go_sem]) ?_
  refine ⟨by simp only [go_sem], ?_⟩
  simp only [go_sem]
  refine zBm [4, 5, 6] [] sy rfl rfl (by simp) (by simp only [go_sem]) ?_ (by simp) (.inl rfl) (by simp [go_sem]) (by simp [go_sem]) ?_
  ·simp only [go_sem]
  simp only [go_sem]
  repeat' (first | (refine Qr rfl ?_; try intro _ hK; try simp only [go_sem, *]) | (refine Qi rfl rfl rfl rfl ?_ ?_ <;> (intro hb; (try intro _ hK); have hc := hb; try simp only [go_sem] at hc; simp only [go_sem, *])) | refine Qh rfl ?_ | refine Qd rfl (by kernel_rfl) ?_ | (refine Qc rfl rfl ?_ ?_ <;> (intro hb; have hc := hb; try simp only [go_sem] at hc)) | refine z8 rfl ?_ | (refine Qb ?_ ?_; focus kernel_rfl) | ((with_reducible apply And.intro); focus omega) | (refine z7 hK ?_; clear hK; simp only [go_sem, *]) | simp only [z6, z5, go_sem, *])
  refine ⟨[_], [some 0, some 1, some 2, some 3, some 4, some 5, some 6, some 8], [], ⟨rfl, trivial⟩, ?_⟩
  simp only [go_sem, *]
 ·rw [if_neg q, List.append_nil]
  rw [Bool.not_eq_true] at q
  have sf1 := sf false q
  clear sf q
  refine z9 func197 rfl (fun E hE => ?_); simp only [go_sem, ntmps197]
  repeat' (first | (refine Qr rfl ?_; try intro _ hK; try simp only [go_sem, *]) | (refine Qi rfl rfl rfl rfl ?_ ?_ <;> (intro hb; (try intro _ hK); have hc := hb; try simp only [go_sem] at hc; simp only [go_sem, *])) | refine Qh rfl ?_ | refine Qd rfl (by kernel_rfl) ?_ | (refine Qc rfl rfl ?_ ?_ <;> (intro hb; have hc := hb; try simp only [go_sem] at hc)) | refine z8 rfl ?_ | (refine Qb ?_ ?_; focus kernel_rfl) | ((with_reducible apply And.intro); focus omega) | (refine z7 hK ?_; clear hK; simp only [go_sem, *]) | simp only [z6, z5, go_sem, *])
  all_goals try contradiction
  refine x4 [3] [] sf1 (by simp) (by simp only [go_sem]) (by simp only [go_sem]) (by simp) (.inl rfl) (by simp [go_sem]) (by simp [go_sem]) ?_
  simp only [go_sem]
  repeat' (first | (refine Qr rfl ?_; try intro _ hK; try simp only [go_sem, *]) | (refine Qi rfl rfl rfl rfl ?_ ?_ <;> (intro hb; (try intro _ hK); have hc := hb; try simp only [go_sem] at hc; simp only [go_sem, *])) | refine Qh rfl ?_ | refine Qd rfl (by kernel_rfl) ?_ | (refine Qc rfl rfl ?_ ?_ <;> (intro hb; have hc := hb; try simp only [go_sem] at hc)) | refine z8 rfl ?_ | (refine Qb ?_ ?_; focus kernel_rfl) | ((with_reducible apply And.intro); focus omega) | (refine z7 hK ?_; clear hK; simp only [go_sem, *]) | simp only [z6, z5, go_sem, *])
  refine ⟨[_], [some 0, some 1, some 2, some 3, some 4, some 5, some 6, some 6], [], ⟨rfl, trivial⟩, ?_⟩
  simp only [go_sem, *]
end Go.Abs

namespace Go.Abs
open Go Go.Proofs Tryz
attribute [local irreducible] q9 Hold y2
variable [Cur]
theorem zOb (s : Story) : zSx prog 172 [.ptr 0 0] [W6 s] (.fn 196 [.ptr 1 0]) [W6 s, .box [.ptr 0 0]] := by
 refine z9 func172 rfl (fun E hE => ?_); simp only [go_sem, ntmps172]
 repeat' (first | (refine Qr rfl ?_; try intro _ hK; try simp only [go_sem, *]) | refine Qh rfl ?_ | (refine Qc rfl rfl ?_ ?_ <;> (intro hb; have hc := hb; try simp only [go_sem] at hc)) | refine z8 rfl ?_ | ((with_reducible apply And.intro); focus omega) | (refine z7 hK ?_; clear hK; simp only [go_sem, *]) | simp only [z6, z5, go_sem, *])
 refine ⟨[_], [some 0, some 1], [], ⟨rfl, trivial⟩, ?_⟩
 simp only [go_sem, *]
end Go.Abs

namespace Go.Abs
open Go Go.Proofs Tryz
attribute [local irreducible] q9 Hold y2
variable [Cur]
end Go.Abs

namespace Go.Abs
open Go Go.Proofs Tryz
variable [Cur]
end Go.Abs

namespace Go.Abs
open Go Go.Proofs Tryz
attribute [local irreducible] q9 Hold y2
variable [Cur]
attribute [go_sem] Nat.le_refl
section
variable {H : Nat → AObj} {m : List (Option Nat)} {ex : List Nat} {α : Type}
@[go_sem, simp] theorem zQd (f : α → List AV) (l : List α) (ys zs : List AV) : XpL H m ex (List.map (fun t => AV.list (f t)) l ++ [AV.list ys]) (List.map (fun t => AV.list (f t)) l ++ [AV.list zs]) ↔ ys = zs := by
 rw [zBw _ (fun z hz => by
  obtain ⟨t, _, rfl⟩ := List.mem_map.1 hz
  simp only [XpF])]
 simp only [XpF]
end
end Go.Abs

namespace Go.Abs
open Go Go.Proofs Tryz
attribute [local irreducible] q9 Hold y2
variable [Cur]
def zS7 (town : zS2) : Story := ⟨town, [], []⟩
omit [Cur] in
theorem zOn (town : zS2) : zG0 (zS7 town) = [j8 (zS7 town)] := by
 unfold zG0
 show H3 (zS7 town) 0 _ = _
 rw [zEo]
 exact if_pos rfl
theorem zNU (town : zS2) (v : check town = 0) : zSx prog 171 [.agg [.list (town.map x7), .list [], .list []]] [] (.tup [.ptr 0 0, iV 0]) [W6 (zS7 town)] := by
 have vv := (E5 town).1 v
 have sc := zNN town (by have := vv.len; omega)
 rw [v] at sc
 have sh := zGQ vv
 have hT : W6 (zS7 town) = .box [.list (town.map x7), .list [], .list [], .list ((x6 town).map House.enc)] := rfl
 rw [hT]
 clear hT vv v
 refine z9 func171 rfl (fun E hE => ?_); simp only [go_sem, ntmps171]
 repeat' (first | (refine Qr rfl ?_; try intro _ hK; try simp only [go_sem, *]) | (refine Qi rfl rfl rfl rfl ?_ ?_ <;> (intro hb; (try intro _ hK); have hc := hb; try simp only [go_sem] at hc; simp only [go_sem, *])) | refine Qh rfl ?_ | refine Qd rfl (by kernel_rfl) ?_ | (refine Qc rfl rfl ?_ ?_ <;> (intro hb; have hc := hb; try simp only [go_sem] at hc)) | refine z8 rfl ?_ | (refine Qb ?_ ?_; focus kernel_rfl) | (refine y5 (sc) ?_; simp only [go_sem, *]) | ((with_reducible apply And.intro); focus omega) | (refine z7 hK ?_; clear hK; simp only [go_sem, *]) | simp only [z6, z5, go_sem, *])
 all_goals try contradiction
 refine y9 rfl (0) (fun i => NoP i) 96 (fun i => [(25, iV i), (24, iV 0), (23, .list []), (1, .ptr 0 0)]) (fun i => [.box [.list (town.map x7), .list [], .list []]]) [some 0] [] (by trivial) ?_; intro i hi hP
 obtain rfl : i = 0 := by omega
 repeat' (first | (refine Qr rfl ?_; try intro _ hK; try simp only [go_sem, *]) | (refine Qi rfl rfl rfl rfl ?_ ?_ <;> (intro hb; (try intro _ hK); have hc := hb; try simp only [go_sem] at hc; simp only [go_sem, *])) | refine Qh rfl ?_ | refine Qd rfl (by kernel_rfl) ?_ | (refine Qc rfl rfl ?_ ?_ <;> (intro hb; have hc := hb; try simp only [go_sem] at hc)) | refine z8 rfl ?_ | (refine Qb ?_ ?_; focus kernel_rfl) | (refine v9 (sh) ?_; simp only [go_sem, *]) | ((with_reducible apply And.intro); focus omega) | (refine z7 hK ?_; clear hK; simp only [go_sem, *]) | simp only [z6, z5, go_sem, *])
 all_goals try contradiction
 clear sc sh
 refine y9 rfl (0) (fun k => NoP k) 96 (fun k => [(63, iV k), (62, iV 0), (61, .list []), (9, .ptr 0 0)]) (fun k => [.box [.list (town.map x7), .list [], .list [], .list ((x6 town).map House.enc)]]) [some 2] [1] (by trivial) ?_; intro k hk hP
 obtain rfl : k = 0 := by omega
 repeat' (first | (refine Qr rfl ?_; try intro _ hK; try simp only [go_sem, *]) | (refine Qi rfl rfl rfl rfl ?_ ?_ <;> (intro hb; (try intro _ hK); have hc := hb; try simp only [go_sem] at hc; simp only [go_sem, *])) | refine Qh rfl ?_ | refine Qd rfl (by kernel_rfl) ?_ | (refine Qc rfl rfl ?_ ?_ <;> (intro hb; have hc := hb; try simp only [go_sem] at hc)) | refine z8 rfl ?_ | (refine Qb ?_ ?_; focus kernel_rfl) | ((with_reducible apply And.intro); focus omega) | (refine z7 hK ?_; clear hK; simp only [go_sem, *]) | simp only [z6, z5, go_sem, *])
 all_goals try contradiction
 refine ⟨[_, _], [some 0], [], ⟨rfl, rfl, trivial⟩, ?_⟩
 simp only [go_sem, *]
theorem zOc (fn : FuncId) (town : zS2) (v : check town = 0) :
  zSx prog 196 [.yld 2, .ptr 0 0] [.box [.ptr 1 0], W6 (zS7 town), .loopo (O3 fn) [(7, .ptr 3 0)] (some none), .box [.own 4 3 0 0], .row 3 []] (.tup [])
   [.box [.ptr 1 0], W6 (zS7 town), .loopo (O3 fn) [(7, .ptr 3 0)] (some none), .box [.own 5 3 0 1], .dead, .row 3 [Truth.enc town (j8 (zS7 town))]] := by
 have vv := (E5 town).1 v
 have o : Told (zS7 town) := ⟨vv, Nat.zero_le _, fun w hw => (by cases hw), Nat.zero_le _, fun f hf => (by cases hf)⟩
 have sg := zNp fn (zS7 town) o (j8 (zS7 town)) (zIx vv) [] (by simp)
 have hg : ([] : List Truth) ++ H3 (zS7 town) 0 (j8 (zS7 town)) = [j8 (zS7 town)] := zOn town
 rw [hg] at sg
 have hca : t6 prog 197 = true := by kernel_rfl
 have sc := zNm town vv
 have ss := zOY town vv
 have hf : (j8 (zS7 town)).fin = town := rfl
 have hs1 : (zS7 town).first = town := rfl
 have hs2 : (zS7 town).steps = [] := rfl
 have hs3 : (zS7 town).facts = [] := rfl
 clear hg v vv o
 refine z9 func196 rfl (fun E hE => ?_); simp only [go_sem, ntmps196]
 repeat' (first | (refine Qr rfl ?_; try intro _ hK; try simp only [go_sem, *]) | refine Qh rfl ?_ | refine Qd rfl (by kernel_rfl) ?_ | (refine Qc rfl rfl ?_ ?_ <;> (intro hb; have hc := hb; try simp only [go_sem] at hc)) | refine z8 rfl ?_ | (refine Qb ?_ ?_; focus kernel_rfl) | (refine y5 (sc) ?_; simp only [go_sem, *]) | (refine v9 (ss) ?_; simp only [go_sem, *]) | ((with_reducible apply And.intro); focus omega) | (refine z7 hK ?_; clear hK; simp only [go_sem, *]) | simp only [z6, z5, go_sem, *])
 refine R8 [0, 5, 6, 1, 2, 3, 4] [7] sg rfl (by simp only [go_sem]) (by simp) ?_ ?_ (by simp [go_sem]) (by simp [go_sem]) ?_
 ·simp only [go_sem, *]
  exact ⟨rfl, rfl⟩
 ·simp only [go_sem, *]
 simp only [go_sem, w4, *]
 repeat' (first | (refine Qr rfl ?_; try intro _ hK; try simp only [go_sem, *]) | refine Qh rfl ?_ | refine Qd rfl (by kernel_rfl) ?_ | (refine Qc rfl rfl ?_ ?_ <;> (intro hb; have hc := hb; try simp only [go_sem] at hc)) | refine z8 rfl ?_ | (refine Qb ?_ ?_; focus kernel_rfl) | ((with_reducible apply And.intro); focus omega) | (refine z7 hK ?_; clear hK; simp only [go_sem, *]) | simp only [z6, z5, go_sem, *])
 refine ⟨[], [some 0, some 1, some 2, some 3, some 4, some 8], [], trivial, ?_⟩
 simp only [go_sem, *]
theorem zGJ (town : zS2) (v : check town = 0) :
  zSx prog 144 [.agg [.list (town.map x7), .list [], .list []]] [] (.tup [.ptr 0 0, .list [Truth.enc town (j8 (zS7 town))], iV 0]) [W6 (zS7 town)] := by
 have sb := zNU town v
 have st := zOb (zS7 town)
 have s1 := fun fn => zOc fn town v
 generalize Truth.enc town (j8 (zS7 town)) = T at *
 clear v
 refine z9 func144 rfl (fun E hE => ?_); simp only [go_sem, ntmps144]
 repeat' (first | (refine Qr rfl ?_; try intro _ hK; try simp only [go_sem, *]) | refine Qh rfl ?_ | (refine Qc rfl rfl ?_ ?_ <;> (intro hb; have hc := hb; try simp only [go_sem] at hc)) | refine z8 rfl ?_ | (refine Qb ?_ ?_; focus kernel_rfl) | (refine v9 (sb) ?_; simp only [go_sem, *]) | ((with_reducible apply And.intro); focus omega) | (refine z7 hK ?_; clear hK; simp only [go_sem, *]) | simp only [z6, z5, go_sem, *])
 all_goals try contradiction
 refine x4 [1] [] st (by simp) (by simp only [go_sem]) (by simp only [go_sem]) (by simp) (.inl rfl) (by simp [go_sem]) (by simp [go_sem]) ?_
 simp only [go_sem]
 repeat' (first | (refine Qr rfl ?_; try intro _ hK; try simp only [go_sem, *]) | refine Qh rfl ?_ | (refine Qc rfl rfl ?_ ?_ <;> (intro hb; have hc := hb; try simp only [go_sem] at hc)) | refine z8 rfl ?_ | (refine Qb ?_ ?_; focus kernel_rfl) | ((with_reducible apply And.intro); focus omega) | (refine z7 hK ?_; clear hK; simp only [go_sem, *]) | simp only [z6, z5, go_sem, *])
 refine V3 (N := 26) (env := [(18, .fn 196 [.ptr 1 0]), (7, .ptr 2 0), (5, .ptr 0 0)]) (As := [W6 (zS7 town), .box [.ptr 0 0], .box [.own 3 3 0 0], .row 3 []]) [some 1, some 3, some 2, none] [] (by (simp only [Weak, go_sem, List.map_append, List.map_set, *] <;> (try simp (disch := omega) only [o3]) <;> (try simp) <;> (try omega))) ?_
 refine zBb (f := 196) (caps := [.ptr 1 0]) rfl (by simp only [go_sem]) (by kernel_rfl) (nx := 4) (by simp only [go_sem]) (fun fn => ⟨5, ?_⟩)
 refine x4 [1, 0, 4, 2, 3] [] (s1 fn) (by simp) (by simp only [go_sem]) ?_ (by simp) (.inl rfl) (by simp [go_sem]) (by simp [go_sem]) ?_
 ·simp only [go_sem, *]
  rfl
 ·simp only [go_sem, *]
  refine ⟨O3 fn, [(7, .ptr 2 0)], none, by simp only [go_sem], ?_⟩
  simp only [go_sem]
  repeat' (first | (refine Qr rfl ?_; try intro _ hK; try simp only [go_sem, *]) | refine Qh rfl ?_ | refine Qd rfl (by kernel_rfl) ?_ | (refine Qc rfl rfl ?_ ?_ <;> (intro hb; have hc := hb; try simp only [go_sem] at hc)) | refine z8 rfl ?_ | (refine Qb ?_ ?_; focus kernel_rfl) | ((with_reducible apply And.intro); focus omega) | (refine z7 hK ?_; clear hK; simp only [go_sem, *]) | simp only [z6, z5, go_sem, *])
  refine ⟨[_, _, _], [some 0], [5], ⟨rfl, rfl, rfl, trivial⟩, ?_⟩
  simp only [go_sem, *]
  all_goals simp [List.take_of_length_le]
theorem zNQ (town : zS2) (v : check town = 0) : zSx prog 141 [.agg [.list (town.map x7), .list [], .list []]] [] (.tup [.list [.list []], iV 0]) [] := by
 have sa := zGJ town v
 have hT : Truth.enc town (j8 (zS7 town)) = .agg [.list [], .list (town.map x7), .fmap (L6 town) (U5 town (j8 (zS7 town)).now)] := rfl
 rw [hT] at sa
 clear hT v
 have hw1 : IntKind.i64.wrap 1 = 1 := rfl
 have hr0 : ∀ x : AV, List.replicate 0 x = [] := fun _ => rfl
 have hr1 : ∀ x : AV, List.replicate 1 x = [x] := fun _ => rfl
 generalize U5 town (j8 (zS7 town)).now = M at *
 generalize L6 town = K at *
 refine z9 func141 rfl (fun E hE => ?_); simp only [go_sem, ntmps141]
 repeat' (first | (refine Qr rfl ?_; try intro _ hK; try simp only [go_sem, *]) | refine Qh rfl ?_ | (refine Qc rfl rfl ?_ ?_ <;> (intro hb; have hc := hb; try simp only [go_sem] at hc)) | refine z8 rfl ?_ | (refine v9 (sa) ?_; simp only [go_sem, *]) | ((with_reducible apply And.intro); focus omega) | (refine z7 hK ?_; clear hK; simp only [go_sem, *]) | simp only [z6, z5, go_sem, *])
 all_goals try contradiction
 clear sa
 refine y9 rfl (1) (fun i => NoP i) 32 (fun i => [(21, iV i), (20, iV 1), (19, .list [.agg [.list [], .list (town.map x7), .fmap K M]]), (7, .own 0 1 0 i)]) (fun i => [.box (List.replicate i (.list []))]) [none] [] (by trivial) ?_; intro i hi hP
 rcases Nat.lt_or_ge i 1 with hi2 | hi2
 ·obtain rfl : i = 0 := by omega
  repeat' (first | (refine Qr rfl ?_; try intro _ hK; try simp only [go_sem, *]) | refine Qh rfl ?_ | (refine Qc rfl rfl ?_ ?_ <;> (intro hb; have hc := hb; try simp only [go_sem] at hc)) | refine z8 rfl ?_ | ((with_reducible apply And.intro); focus omega) | (refine z7 hK ?_; clear hK; simp only [go_sem, *]) | simp only [z6, z5, go_sem, *])
  all_goals try contradiction
  exact y3 (i' := 0 + 1) [some 3] [] (by trivial)
 ·obtain rfl : i = 1 := by omega
  repeat' (first | (refine Qr rfl ?_; try intro _ hK; try simp only [go_sem, *]) | refine Qh rfl ?_ | (refine Qc rfl rfl ?_ ?_ <;> (intro hb; have hc := hb; try simp only [go_sem] at hc)) | refine z8 rfl ?_ | ((with_reducible apply And.intro); focus omega) | (refine z7 hK ?_; clear hK; simp only [go_sem, *]) | simp only [z6, z5, go_sem, *])
  all_goals try contradiction
  refine ⟨[_, _], [], [0], ⟨rfl, rfl, trivial⟩, ?_⟩
  simp only [go_sem, *]
  all_goals simp
theorem zNS (town : zS2) (v : check town = 0) (h : House) (hh : h ∈ x6 town) : zSx prog 117 [.agg [.list (town.map x7), .list [], .list []], h.enc] [] (.tup [.list [h.enc], iV 0]) [] := by
 have vv := (E5 town).1 v
 have sa := zGJ town v
 have sc := zDB (x6 town) h (by have := vv.count; omega)
 have e0 : decide (h ∈ x6 town) = true := by simpa using hh
 rw [e0] at sc
 have ss := zOT [h] (by simp) (by simp)
 have hsd : (V7 [h]).map House.enc = [h.enc] := rfl
 rw [hsd] at ss
 have hw := vv.wf
 have hwf := hw _ hh
 have hT : Truth.enc town (j8 (zS7 town)) = .agg [.list [], .list (town.map x7), .fmap (L6 town) (U5 town (j8 (zS7 town)).now)] := rfl
 rw [hT] at sa
 have hnow : zTe (j8 (zS7 town)).now h = .list [h.enc] := rfl
 have hw1 : IntKind.i64.wrap 1 = 1 := rfl
 have hr0 : ∀ x : AV, List.replicate 0 x = [] := fun _ => rfl
 have hr1 : ∀ x : AV, List.replicate 1 x = [x] := fun _ => rfl
 clear e0 hT v hsd
 refine z9 func117 rfl (fun E hE => ?_); simp only [go_sem, ntmps117]
 repeat' (first | (refine Qr rfl ?_; try intro _ hK; try simp only [go_sem, *]) | refine Qh rfl ?_ | refine Qd rfl (by kernel_rfl) ?_ | (refine Qc rfl rfl ?_ ?_ <;> (intro hb; have hc := hb; try simp only [go_sem] at hc)) | refine z8 rfl ?_ | (refine Qb ?_ ?_; focus kernel_rfl) | (refine v9 (sa) ?_; simp only [go_sem, *]) | (refine y5 (sc) ?_; simp only [go_sem, *]) | ((with_reducible apply And.intro); focus omega) | (refine z7 hK ?_; clear hK; simp only [go_sem, *]) | simp only [z6, z5, go_sem, *])
 all_goals try contradiction
 clear sa sc
 refine y9 rfl (1) (fun i => NoP i) 46 (fun i => [(33, iV i), (32, iV 1), (31, .list [.agg [.list [], .list (town.map x7), .fmap (L6 town) (U5 town (j8 (zS7 town)).now)]]), (9, .own 1 3 0 i), (3, .ptr 0 0)]) (fun i => [.box [iV h.street, iV h.plate.number, iV h.plate.letter], .row 3 (List.replicate i h.enc)]) [some 1, none] [] (by trivial) ?_; intro i hi hP
 rcases Nat.lt_or_ge i 1 with hi2 | hi2
 ·obtain rfl : i = 0 := by omega
  repeat' (first | (refine Qr rfl ?_; try intro _ hK; try simp only [go_sem, *]) | refine Qh rfl ?_ | refine Qd rfl (by kernel_rfl) ?_ | (refine Qc rfl rfl ?_ ?_ <;> (intro hb; have hc := hb; try simp only [go_sem] at hc)) | refine z8 rfl ?_ | (refine Qb ?_ ?_; focus kernel_rfl) | ((with_reducible apply And.intro); focus omega) | (refine z7 hK ?_; clear hK; simp only [go_sem, *]) | simp only [z6, z5, go_sem, *])
  refine zCq (h := h) (hs := x6 town) (F := zTe (j8 (zS7 town)).now) hw hwf ?_
  rw [if_pos hh, hnow]
  clear hnow
  repeat' (first | (refine Qr rfl ?_; try intro _ hK; try simp only [go_sem, *]) | refine Qh rfl ?_ | refine Qd rfl (by kernel_rfl) ?_ | (refine Qc rfl rfl ?_ ?_ <;> (intro hb; have hc := hb; try simp only [go_sem] at hc)) | refine z8 rfl ?_ | (refine Qb ?_ ?_; focus kernel_rfl) | ((with_reducible apply And.intro); focus omega) | (refine z7 hK ?_; clear hK; simp only [go_sem, *]) | simp only [z6, z5, go_sem, *])
  all_goals try contradiction
  exact y3 (i' := 0 + 1) [some 0, some 3] [] (by trivial)
 ·obtain rfl : i = 1 := by omega
  clear hnow
  repeat' (first | (refine Qr rfl ?_; try intro _ hK; try simp only [go_sem, *]) | refine Qh rfl ?_ | refine Qd rfl (by kernel_rfl) ?_ | (refine Qc rfl rfl ?_ ?_ <;> (intro hb; have hc := hb; try simp only [go_sem] at hc)) | refine z8 rfl ?_ | (refine Qb ?_ ?_; focus kernel_rfl) | ((with_reducible apply And.intro); focus omega) | (refine z7 hK ?_; clear hK; simp only [go_sem, *]) | simp only [z6, z5, go_sem, *])
  all_goals try contradiction
  (refine zHy (ss) (by simp only [go_sem, *]; done) rfl (by simp only [go_sem]; done) (by simp) (by simp) ?_; simp only [go_sem, w4, *])
  repeat' (first | (refine Qr rfl ?_; try intro _ hK; try simp only [go_sem, *]) | refine Qh rfl ?_ | refine Qd rfl (by kernel_rfl) ?_ | (refine Qc rfl rfl ?_ ?_ <;> (intro hb; have hc := hb; try simp only [go_sem] at hc)) | refine z8 rfl ?_ | (refine Qb ?_ ?_; focus kernel_rfl) | ((with_reducible apply And.intro); focus omega) | (refine z7 hK ?_; clear hK; simp only [go_sem, *]) | simp only [z6, z5, go_sem, *])
  (refine ⟨[_, _], [], [], ⟨rfl, rfl, trivial⟩, ?_⟩; simp only [go_sem, *])
end Go.Abs

namespace Go.Abs
open Go
structure Cl where
 name : Str
 under : Int
 deriving Inhabited
structure Hd where
 word : Str
 cls : Int
 see : Int
 also : List Int
 deriving Inhabited
structure Trd where
 cls : List Cl
 hds : List Hd
 deriving Inhabited
@[reducible] def Cl.enc (c : Cl) : AV := .agg [sV c.name, iV c.under]
@[reducible] def Hd.enc (h : Hd) : AV := .agg [sV h.word, iV h.cls, iV h.see, .list (h.also.map iV)]
@[reducible] def x8 (l : List Cl) : AV := .list (l.map Cl.enc)
@[reducible] def x9 (l : List Hd) : AV := .list (l.map Hd.enc)
@[reducible] def Trd.enc (t : Trd) : AV := .agg [x8 t.cls, x9 t.hds]
attribute [go_sem] Nat.sub_zero Cl.enc Hd.enc x8 x9 Trd.enc
def R1 (c : UInt8) : Bool := decide (97 ≤ c.toNat) && decide (c.toNat ≤ 122)
abbrev zC7 : Str := [99, 108, 97, 115, 115]
abbrev zC8 : Str := [102, 105, 110, 105, 115]
def p9 (s : Str) : Bool := !(decide (s.length = 0) || decide (12 < s.length) || decide (s = zC7) || decide (s = zC8)) && s.all R1
def btw (n lo hi : Int) : Bool := decide (lo ≤ n) && decide (n ≤ hi)
def zTM (n : Str) (y : Cl) : Bool := y.name == n
def zTP (n : Str) (y : Hd) : Bool := y.word == n
def Q4 (l : List Cl) (i : Nat) : Int :=
 if p9 (l.getD i default).name = false then 2 else if (l.take i).any (zTM (l.getD i default).name) = true then 4
 else if btw (l.getD i default).under (-1) (l.length - 1) = false then 3 else if (i : Int) ≤ (l.getD i default).under then 5 else 0
def W9 (n : Nat) (i : Nat) (l : List Int) (k : Nat) : Int :=
 if btw (l.getD k 0) 0 (n - 1) = false then 3 else if l.getD k 0 = i then 9 else if 0 < k ∧ l.getD k 0 ≤ l.getD (k - 1) 0 then 5 else 0
def u0 (f : Nat → Int) : Nat → Nat → Int
 | 0, _ => 0
 | n + 1, k => if f k = 0 then u0 f n (k + 1) else f k
def Y2 (x : Hd) : Int := if (x.see ≠ -1 ∧ (x.cls ≠ -1 ∨ 0 < x.also.length)) ∨ (x.see = -1 ∧ x.cls = -1 ∧ x.also.length = 0) then 8 else 0
def U3 (t : Trd) (i : Nat) : Int :=
 let x := t.hds.getD i default
 if p9 x.word = false then 2 else if (t.hds.take i).any (zTP x.word) = true then 4
 else if 0 < i ∧ u3 x.word (t.hds.getD (i - 1) default).word = true then 5
 else if btw x.cls (-1) (t.cls.length - 1) = false ∨ btw x.see (-1) (t.hds.length - 1) = false then 3 else if x.see = i then 9
 else if u0 (W9 t.hds.length i x.also) x.also.length 0 ≠ 0 then u0 (W9 t.hds.length i x.also) x.also.length 0 else Y2 x
def b8 (t : Trd) : Int :=
 if 6 < t.cls.length ∨ 6 < t.hds.length then 6 else if u0 (Q4 t.cls) t.cls.length 0 ≠ 0 then u0 (Q4 t.cls) t.cls.length 0 else u0 (U3 t) t.hds.length 0
def NoT (_ : Nat) : Prop := True
def zS8 {α : Type} (p : α → Bool) : List α → Nat → Int
 | [], _ => -1
 | x :: r, i => if p x = true then (i : Int) else zS8 p r (i + 1)
theorem zBA {α : Type} (p : α → Bool) : ∀ (l : List α) (i : Nat), decide (zS8 p l i ≥ 0) = l.any p
 | [], i => by simp [zS8]
 | x :: r, i => by
  rw [zS8, List.any_cons]
  cases hp : p x with
  | true => simp
  | false => rw [if_neg (by decide), zBA p r (i + 1), Bool.false_or]
theorem zER {f : Nat → Int} {n k : Nat} (h : f k ≠ 0) : u0 f (n + 1) k = f k := if_neg h
theorem zEP {f : Nat → Int} {n k : Nat} (h : f k = 0) : u0 f (n + 1) k = u0 f n (k + 1) := if_pos h
theorem zMd (s : Str) {i : Nat} (h : i < s.length) : ((97 ≤ ((Utf8.decode ⟨s.toArray⟩ i).1 : Int) ∧ ((Utf8.decode ⟨s.toArray⟩ i).1 : Int) ≤ 122) ↔ R1 (s.getD i 0) = true) ∧ (R1 (s.getD i 0) = true → (Utf8.decode ⟨s.toArray⟩ i).2 = 1) := by
 unfold R1
 by_cases q : (s.getD i 0).toNat < 128
 ·rw [zCF h q]
  refine ⟨?_, fun _ => rfl⟩
  simp; omega
 ·have := zD7 h (by omega)
  constructor
  ·simp only [Bool.and_eq_true, decide_eq_true_eq]; omega
  ·simp only [Bool.and_eq_true, decide_eq_true_eq]; omega
def SmTo (s : Str) (i : Nat) : Prop := ∀ j, j < i → R1 (s.getD j 0) = true
theorem SmTo.next {s : Str} {i : Nat} (h : SmTo s i) (hi : R1 (s.getD i 0) = true) : SmTo s (i + 1) := fun j hj => by
 by_cases e : j = i
 ·rw [e]; exact hi
 ·exact h j (by omega)
theorem SmTo.all {s : Str} {i : Nat} (h : SmTo s i) (hi : s.length ≤ i) : s.all R1 = true := by
 rw [List.all_eq_true]
 intro c hc
 obtain ⟨j, hj, rfl⟩ := List.getElem_of_mem hc
 have := h j (by omega)
 simpa [List.getD, hj] using this
theorem zHY {s : Str} {i : Nat} (hi : i < s.length) (h : ¬ R1 (s.getD i 0) = true) : s.all R1 = false := by
 rw [Bool.eq_false_iff]
 intro ha
 rw [List.all_eq_true] at ha
 exact h (by have := ha s[i] (List.getElem_mem hi); simpa [List.getD, hi] using this)
end Go.Abs

namespace Go.Abs
open Go
structure Per where
 name : Str
 street : Int
 number : Int
 head : Int
 bold : Bool
 deriving Inhabited
@[reducible] def Per.enc (p : Per) : AV := .agg [sV p.name, iV p.street, iV p.number, iV p.head, bV p.bold]
@[reducible] def y8 (l : List Per) : AV := .list (l.map Per.enc)
structure Vol where
 streets : Int
 width : Int
 rows : Int
 tr : Trd
 rules : List Rule
 people : List Per
 deriving Inhabited
@[reducible] def Vol.enc (v : Vol) : AV := .agg [iV v.streets, iV v.width, iV v.rows, x8 v.tr.cls, x9 v.tr.hds, x5 v.rules, y8 v.people]
attribute [go_sem] Per.enc y8 Vol.enc
def Y6 (a b : Int) : Int := IntKind.i64.wrap (a - b)
def boV (p : Per) : Int := if p.bold = true then 1 else 0
def nmV (p q : Per) : Int := if M8 p.name q.name = 0 then X9 p.name q.name else 0
def a5 (p q : Per) : Int := orL [Y6 p.head q.head, nmV p q, Y6 p.street q.street, Y6 p.number q.number, Y6 (boV p) (boV q)]
def Q2 (cf : Per → Per → Int) (st : Per → Bool) (l : List Per) : List Nat := u5 (fun a b => cf (l.getD a default) (l.getD b default)) ((List.range l.length).filter fun i => st (l.getD i default))
end Go.Abs

namespace Go.Abs
open Go Go.Proofs Tryz
attribute [local irreducible] q9 Hold y2
variable [Cur]
theorem zN8 (ts cs hs rs ps qs : List AV) (b : Bool) : zBu prog 115 .returning .returning [.ptr 0 0, .ptr 1 0]
  [.box [.ptr 2 0], .box [iV 0], .box [.list ts, .list [], .list [], .list cs, .list hs, .list rs, .list ps, .list qs, iV 0, iV 0, iV 0, .list [], .own 3 16 0 1], .row 16 [.agg [bV b, bV false, bV false, bV false, bV false, bV false, bV false, bV false, bV false, bV false, bV false, bV false, bV false, bV false, bV false, bV false]]]
  [.box [.ptr 2 0], .box [iV 0], .box [.list ts, .list [], .list [], .list cs, .list hs, .list rs, .list ps, .list qs, iV 0, iV 0, iV 0, .list [], .own 3 16 0 1], .row 16 [.agg [bV b, bV false, bV false, bV false, bV false, bV false, bV false, bV false, bV false, bV false, bV false, bV false, bV false, bV false, bV false, bV false]]] := by
 have hlo : H9 .returning = .returning := rfl
 have hu : prog.underlying 20 = some (.interface #[]) := by kernel_rfl
 have hr1 : (Y4 .returning).1 = .nilIface := rfl
 have hr2 : (Y4 .returning).2 = .returning := rfl
 refine zOi func115 rfl (fun E hE => ?_)
 simp only [go_sem, ntmps115]
 refine zMX rfl ?_
 refine zMW (post := []) rfl rfl rfl rfl rfl (fun d hd => by cases hd; simp only [go_sem]) ?_
 refine l7 ?_
 refine zJ9 ?_
 simp only [go_sem, *]
 refine wk1 trivial ?_
 refine ⟨[], [some 0, some 1, some 2, some 3], [], trivial, ?_⟩
 simp only [go_sem, *]
abbrev H5 (p : Per) : AV := .agg [iV p.street, iV p.number, iV 0]
theorem zN7 (ts cs hs rs : List AV) (p q : Per) (b : Bool) (sk : zSx prog 116 [.agg [.list ts, .list [], .list [], .list cs, .list hs, .list rs, y8 [p], y8 [q], iV 0, iV 0, iV 0, .list []]] [] (.list [.list []]) [])
  (s1 : zSx prog 118 [p.enc] [] (H5 p) []) (s2 : zSx prog 118 [q.enc] [] (H5 q) []) (sm : zSx prog 119 [iV 0] [] (.tup []) [])
  (sw : zSx prog 117 [.agg [.list ts, .list [], .list []], H5 p] [] (.tup [.list [H5 p], iV 0]) [])
  (sc : zSx prog 120 [.list [H5 p], H5 q] [] (bV b) []) :
  zSx prog 93 [.agg [.list ts, .list [], .list [], .list cs, .list hs, .list rs, y8 [p], y8 [q], iV 0, iV 0, iV 0, .list []]] [] (.tup [.ptr 0 0, iV 0])
   [.box [.list ts, .list [], .list [], .list cs, .list hs, .list rs, y8 [p], y8 [q], iV 0, iV 0, iV 0, .list [], .own 1 16 0 1], .row 16 [.agg [bV b, bV false, bV false, bV false, bV false, bV false, bV false, bV false, bV false, bV false, bV false, bV false, bV false, bV false, bV false, bV false]]] := by
 refine zOk (m := 3) (g := 115) (caps := [.ptr 1 0, .ptr 2 0]) (pre := [_]) (rest := sub [1, 1] (O4 Tryz.f93)) func93 rfl rfl rfl rfl (by kernel_rfl) (by simp) (fun x hx => by
  simp only [List.mem_cons, List.not_mem_nil, or_false] at hx
  rcases hx with rfl | rfl
  ·exact ⟨1, by decide, rfl⟩
  ·exact ⟨2, by decide, rfl⟩) (fun E hE => ?_)
 clear hE
 have hw1 : IntKind.i64.wrap 1 = 1 := rfl
 have hrp : ∀ x : AV, List.replicate 1 x = [x] := fun _ => rfl
 have hrp0 : ∀ x : AV, List.replicate 0 x = [] := fun _ => rfl
 simp only [go_sem, ntmps93]
 repeat' (first | (refine Qr (ops := _ :: _) rfl ?_; try intro _ hK; try simp only [go_sem, *]) | (refine Qi rfl rfl rfl rfl ?_ ?_ <;> (intro hb; (try intro _ hK); have hc := hb; try simp only [go_sem] at hc; simp only [go_sem, *])) | (refine Qb ?_ ?_; focus kernel_rfl) | ((with_reducible apply And.intro); focus omega) | (refine z7 hK ?_; clear hK; simp only [go_sem, *]) | simp only [z6, z5, go_sem, *])
 refine l7 ?_
 try simp only [go_sem, *]
 repeat' (first | (refine Qr (ops := _ :: _) rfl ?_; try intro _ hK; try simp only [go_sem, *]) | (refine Qi rfl rfl rfl rfl ?_ ?_ <;> (intro hb; (try intro _ hK); have hc := hb; try simp only [go_sem] at hc; simp only [go_sem, *])) | (refine Qb ?_ ?_; focus kernel_rfl) | ((with_reducible apply And.intro); focus omega) | (refine z7 hK ?_; clear hK; simp only [go_sem, *]) | simp only [z6, z5, go_sem, *])
 refine l7 ?_
 simp only [go_sem, *]
 refine ⟨fun k hk => ?_, fun E' hE' => ?_⟩
 ·rcases k with _ | _ | _ | k
  ·rfl
  ·rfl
  ·rfl
  ·omega
 refine we1 sk ?_
 clear sk
 refine y9 rfl (1) (fun i => NoT i) 106 (fun i => [(23, iV i), (22, iV 1), (21, .list [.list []]), (1, .ptr 0 0), (2, .ptr 1 0), (3, .ptr 2 0)]) (fun i => [.box [.list ts, .list [], .list [], .list cs, .list hs, .list rs, y8 [p], y8 [q], iV 0, iV 0, iV 0, .list []], .box [.ptr 3 0], .box [iV 0], .box [.list ts, .list [], .list [], .list cs, .list hs, .list rs, y8 [p], y8 [q], iV 0, iV 0, iV 0, .list [], .own 4 16 0 i], .row 16 (List.replicate i (.agg [bV b, bV false, bV false, bV false, bV false, bV false, bV false, bV false, bV false, bV false, bV false, bV false, bV false, bV false, bV false, bV false]))]) [some 0, some 1, some 2, some 3, none] [] (by trivial) ?_; intro i hi hP
 rcases Nat.lt_or_ge i 1 with hi2 | hi2
 ·obtain rfl : i = 0 := by omega
  refine we1 trivial ?_
  refine y9 rfl (0) (fun j => NoT j) 106 (fun j => [(36, iV j), (35, iV 0), (34, .list []), (23, iV 0), (22, iV 1), (21, .list [.list []]), (1, .ptr 0 0), (2, .ptr 1 0), (3, .ptr 2 0), (6, .ptr 5 0)]) (fun j => [.box [.list ts, .list [], .list [], .list cs, .list hs, .list rs, y8 [p], y8 [q], iV 0, iV 0, iV 0, .list []], .box [.ptr 3 0], .box [iV 0], .box [.list ts, .list [], .list [], .list cs, .list hs, .list rs, y8 [p], y8 [q], iV 0, iV 0, iV 0, .list [], .own 4 16 0 0], .row 16 (List.replicate 0 (.agg [bV b, bV false, bV false, bV false, bV false, bV false, bV false, bV false, bV false, bV false, bV false, bV false, bV false, bV false, bV false, bV false])), .box [.list ts, .list [], .list []]]) [some 0, some 1, some 2, some 3, some 4, some 5] [] (by trivial) ?_; intro j hj hP
  obtain rfl : j = 0 := by omega
  refine we1 trivial ?_
  refine y9 rfl (1) (fun x => NoT x) 106 (fun x => [(62, iV x), (61, iV 1), (60, y8 [p]), (9, .ptr 6 0), (23, iV 0), (22, iV 1), (21, .list [.list []]), (1, .ptr 0 0), (2, .ptr 1 0), (3, .ptr 2 0), (6, .ptr 5 0)]) (fun x => [.box [.list ts, .list [], .list [], .list cs, .list hs, .list rs, y8 [p], y8 [q], iV 0, iV 0, iV 0, .list []], .box [.ptr 3 0], .box [iV 0], .box [.list ts, .list [], .list [], .list cs, .list hs, .list rs, y8 [p], y8 [q], iV 0, iV 0, iV 0, .list [], .own 4 16 0 0], .row 16 (List.replicate 0 (.agg [bV b, bV false, bV false, bV false, bV false, bV false, bV false, bV false, bV false, bV false, bV false, bV false, bV false, bV false, bV false, bV false])), .box [.list ts, .list [], .list []], .box [bV (b && decide (0 < x)), bV false, bV false, bV false, bV false, bV false, bV false, bV false, bV false, bV false, bV false, bV false, bV false, bV false, bV false, bV false]]) [some 0, some 1, some 2, some 3, some 4, some 5, some 6] [] (by trivial) ?_; intro x hx hP
  rcases Nat.lt_or_ge x 1 with hx2 | hx2
  ·obtain rfl : x = 0 := by omega
   refine we1 (cc s1 (cc sw sm)) ?_
   refine y9 rfl (1) (fun y => NoT y) 106 (fun y => [(79, iV y), (78, iV 1), (77, y8 [q]), (12, .list [H5 p]), (10, iV 0), (62, iV 0), (61, iV 1), (60, y8 [p]), (9, .ptr 6 0), (23, iV 0), (22, iV 1), (21, .list [.list []]), (1, .ptr 0 0), (2, .ptr 1 0), (3, .ptr 2 0), (6, .ptr 5 0)]) (fun y => [.box [.list ts, .list [], .list [], .list cs, .list hs, .list rs, y8 [p], y8 [q], iV 0, iV 0, iV 0, .list []], .box [.ptr 3 0], .box [iV 0], .box [.list ts, .list [], .list [], .list cs, .list hs, .list rs, y8 [p], y8 [q], iV 0, iV 0, iV 0, .list [], .own 4 16 0 0], .row 16 (List.replicate 0 (.agg [bV b, bV false, bV false, bV false, bV false, bV false, bV false, bV false, bV false, bV false, bV false, bV false, bV false, bV false, bV false, bV false])), .box [.list ts, .list [], .list []], .box [bV (b && decide (0 < y)), bV false, bV false, bV false, bV false, bV false, bV false, bV false, bV false, bV false, bV false, bV false, bV false, bV false, bV false, bV false]]) [some 0, some 1, some 2, some 3, some 4, some 5, some 6] [] (by trivial) ?_; intro y hy hP
   rcases Nat.lt_or_ge y 1 with hy2 | hy2
   ·obtain rfl : y = 0 := by omega
    refine we1 (cc s2 sc) ?_
    exact y3 (i' := 0 + 1) [some 0, some 1, some 2, some 3, some 4, some 5, some 6] [] (by trivial)
   ·obtain rfl : y = 1 := by omega
    refine we1 trivial ?_
    exact y3 (i' := 0 + 1) [some 0, some 1, some 2, some 3, some 4, some 5, some 6] [] (by trivial)
  ·obtain rfl : x = 1 := by omega
   refine we1 trivial ?_
   exact y3 (i' := 0 + 1) [some 0, some 1, some 2, some 3, some 8] [] (by trivial)
 ·obtain rfl : i = 1 := by omega
  refine we1 trivial ?_
  refine zIP .returning [1, 2, 3, 4] (zN8 ts cs hs rs [p.enc] [q.enc] b) rfl (by simp) (by simp only [go_sem, *]) (by simp only [go_sem, *]) rfl (by simp) ?_
  refine ⟨[.ptr 3 0, iV 0], [some 3, some 4], [], ⟨(by simp only [Z2, go_sem]), (by simp only [Z2, go_sem]), trivial⟩, ?_⟩
  simp only [go_sem, *]
end Go.Abs

namespace Go.Abs
open Go Go.Proofs Tryz
attribute [local irreducible] q9 Hold y2
variable [Cur]
theorem B6 (n lo hi : Int) : zSx prog 38 [iV n, iV lo, iV hi] [] (bV (btw n lo hi)) [] := by
 refine z9 func38 rfl (fun E hE => ?_); simp only [go_sem, ntmps38]
 repeat' (first | (refine Qr rfl ?_; try intro _ hK; try simp only [go_sem, *]) | (refine Qi rfl rfl rfl rfl ?_ ?_ <;> (intro hb; (try intro _ hK); have hc := hb; try simp only [go_sem] at hc; simp only [go_sem, *])) | refine Qh rfl ?_ | (refine Qc rfl rfl ?_ ?_ <;> (intro hb; have hc := hb; try simp only [go_sem] at hc)) | refine z8 rfl ?_ | ((with_reducible apply And.intro); focus omega) | (refine z7 hK ?_; clear hK; simp only [go_sem, *]) | simp only [z6, z5, go_sem, *])
 all_goals (refine ⟨[_], [], [], ⟨rfl, trivial⟩, ?_⟩; simp only [go_sem, *])
 all_goals (unfold btw; simp_all)
 all_goals omega
theorem zGK (p : Per) : zSx prog 295 [p.enc] [] (iV (boV p)) [] := by
 unfold boV
 refine z9 func295 rfl (fun E hE => ?_); simp only [go_sem, ntmps295]
 refine wk2 trivial ?_ ?_
 all_goals (refine ⟨[_], [], [], ⟨rfl, trivial⟩, ?_⟩; simp only [go_sem, *])
theorem zOF (p q : Per) : zSx prog 294 [p.enc, q.enc] [] (iV (nmV p q)) [] := by
 have sc := zNH p.name q.name
 have e : nmV p q = if M8 p.name q.name = 0 then X9 p.name q.name else 0 := rfl
 rw [← e] at sc
 clear e
 refine z9 func294 rfl (fun E hE => ?_); simp only [go_sem, ntmps294]
 refine wk1 sc ?_
 all_goals (refine ⟨[_], [], [], ⟨rfl, trivial⟩, ?_⟩; simp only [go_sem, *])
theorem zOS (l : List Int) (hl : l.length ≤ 4294967296) : zSx prog 293 [.list (l.map iV)] [] (iV (orL l)) [] := by
 refine z9 func293 rfl (fun E hE => ?_); simp only [go_sem, ntmps293]
 refine wk1 trivial ?_
 refine y9 rfl (l.length) (fun i => orL (l.drop i) = orL l) 15 (fun i => [(7, iV i), (6, iV l.length), (5, .list (l.map iV))]) (fun i => []) [] [] (by simp) ?_; intro i hi hP
 repeat' (first | (refine Qr rfl ?_; try intro _ hK; try simp only [go_sem, *]) | refine Qh rfl ?_ | (refine Qc rfl rfl ?_ ?_ <;> (intro hb; have hc := hb; try simp only [go_sem] at hc)) | refine z8 rfl ?_ | ((with_reducible apply And.intro); focus omega) | (refine z7 hK ?_; clear hK; simp only [go_sem, *]) | simp only [z6, z5, go_sem, *])
 ·(refine ⟨[_], [], [], ⟨rfl, trivial⟩, ?_⟩; simp only [go_sem, *])
  rw [← hP, u4 ‹_›, orL, if_neg ‹_›]
 ·exact y3 (i' := i + 1) [] [] (by rw [← hP, u4 (i := i) ‹_›, orL, if_pos ‹_›])
 ·(refine ⟨[_], [], [], ⟨rfl, trivial⟩, ?_⟩; simp only [go_sem, *])
  rw [← hP, l5 (by omega), orL]
theorem zOX (p : Per) : zSx prog 292 [.agg [], p.enc] [] (bV (p.head != -1)) [] := by
 refine z9 func292 rfl (fun E hE => ?_); simp only [go_sem, ntmps292]
 refine wk1 trivial ?_
 all_goals (refine ⟨[_], [], [], ⟨rfl, trivial⟩, ?_⟩; simp only [go_sem, *])
theorem zNi (p q : Per) : zSx prog 289 [.agg [], p.enc, q.enc] [] (iV (a5 p q)) [] := by
 have sn := zOF p q
 have s1 := zGK p
 have s2 := zGK q
 have ss := zOS [Y6 p.head q.head, nmV p q, Y6 p.street q.street, Y6 p.number q.number, Y6 (boV p) (boV q)] (by simp)
 have e : a5 p q = orL [Y6 p.head q.head, nmV p q, Y6 p.street q.street, Y6 p.number q.number, Y6 (boV p) (boV q)] := rfl
 rw [← e] at ss
 generalize a5 p q = R at *
 generalize nmV p q = n at *
 generalize boV p = c1 at *
 generalize boV q = c2 at *
 have f1 : Y6 p.head q.head = IntKind.i64.wrap (p.head - q.head) := rfl
 have f2 : Y6 p.street q.street = IntKind.i64.wrap (p.street - q.street) := rfl
 have f3 : Y6 p.number q.number = IntKind.i64.wrap (p.number - q.number) := rfl
 have f4 : Y6 c1 c2 = IntKind.i64.wrap (c1 - c2) := rfl
 rw [f1, f2, f3, f4] at ss
 clear f1 f2 f3 f4 e
 refine z9 func289 rfl (fun E hE => ?_); simp only [go_sem, ntmps289]
 repeat' (first | (refine Qr rfl ?_; try intro _ hK; try simp only [go_sem, *]) | refine Qh rfl ?_ | refine Qd rfl (by kernel_rfl) ?_ | (refine Qc rfl rfl ?_ ?_ <;> (intro hb; have hc := hb; try simp only [go_sem] at hc)) | refine z8 rfl ?_ | (refine Qb ?_ ?_; focus kernel_rfl) | (refine y5 (sn) ?_; simp only [go_sem, *]) | (refine r7 (s1) ?_ ?_; (focus (simp only [go_sem, *]; done)); simp only [go_sem, *]) | (refine r7 (s2) ?_ ?_; (focus (simp only [go_sem, *]; done)); simp only [go_sem, *]) | ((with_reducible apply And.intro); focus omega) | (refine z7 hK ?_; clear hK; simp only [go_sem, *]) | simp only [z6, z5, go_sem, *])
 (refine V0 [3] (ss) (by simp only [go_sem, *]) (.raw _) ?_; simp only [go_sem, *])
 repeat' (first | (refine Qr rfl ?_; try intro _ hK; try simp only [go_sem, *]) | refine Qh rfl ?_ | refine Qd rfl (by kernel_rfl) ?_ | (refine Qc rfl rfl ?_ ?_ <;> (intro hb; have hc := hb; try simp only [go_sem] at hc)) | refine z8 rfl ?_ | (refine Qb ?_ ?_; focus kernel_rfl) | ((with_reducible apply And.intro); focus omega) | (refine z7 hK ?_; clear hK; simp only [go_sem, *]) | simp only [z6, z5, go_sem, *])
 all_goals (refine ⟨[_], [], [], ⟨rfl, trivial⟩, ?_⟩; simp only [go_sem, *])
end Go.Abs

namespace Go.Abs
open Go Go.Proofs Tryz
attribute [local irreducible] q9 Hold y2
variable [Cur]
abbrev zTj (t : TypeId) : AV := .raw (.iface t (.agg #[]))
theorem zHX : F3 prog 185 (.agg #[]) "wayzgoose/part.compare" := fun w => ⟨by kernel_rfl, fun es => by kernel_rfl⟩
theorem zMg (l : List Per) : zAn 185 (l.map Per.enc) l.length (fun a b => a5 (l.getD a default) (l.getD b default)) := fun a b h1 h2 => by
 have sc := zNi (l.getD a default) (l.getD b default)
 have ah := zHX
 show zSx _ _ _ _ (iV (a5 (l.getD a default) (l.getD b default))) _
 generalize a5 (l.getD a default) (l.getD b default) = R at *
 refine z9 func70 rfl (fun E hE => ?_); simp only [go_sem, ntmps70]
 refine we1 sc ?_
 refine ⟨[_], [some 0, some 1], [], ⟨rfl, trivial⟩, ?_⟩
 simp only [go_sem, *]
def zTA (p : Per) : Bool := p.head != -1
def FiP (st : Per → Bool) (l : List Per) (i : Nat) (B : List Nat) : Prop := B = (List.range i).filter (fun k => st (l.getD k default)) ∧ B.length ≤ i
theorem FiP.zero (st : Per → Bool) (l : List Per) : FiP st l 0 [] := ⟨rfl, Nat.le_refl _⟩
theorem FiP.go {st : Per → Bool} {l : List Per} {i : Nat} {B : List Nat} (h : FiP st l i B) : (st (l.getD i default) = true → FiP st l (i + 1) (B ++ [i])) ∧ (st (l.getD i default) = false → FiP st l (i + 1) B) := by
 obtain ⟨h1, h2⟩ := h
 refine ⟨fun q => ⟨by rw [List.range_succ, List.filter_append, ← h1, List.filter_cons, if_pos (by exact q), List.filter_nil], by simp; omega⟩, fun q => ⟨by rw [List.range_succ, List.filter_append, ← h1, List.filter_cons, if_neg (by rw [Bool.not_eq_true]; exact q), List.filter_nil, List.append_nil], by omega⟩⟩
theorem zOU (l : List Per) (h12 : l.length ≤ 12) : zSx prog 29 [y8 l, zTj 185] [] (.own 0 1 0 (Q2 a5 zTA l).length) [.row 1 ((Q2 a5 zTA l).map pnV)] := by
 have hfl : ((List.range l.length).filter fun i => zTA (l.getD i default)).length ≤ l.length := by
  have := List.length_filter_le (fun i => zTA (l.getD i default)) (List.range l.length)
  simpa using this
 have ss := zOH 185 (l.map Per.enc) l.length _ (zMg l) ((List.range l.length).filter fun i => zTA (l.getD i default)) (by omega) (fun x hx => List.mem_range.1 (List.mem_filter.1 hx).1)
 have hV : u5 (fun a b => a5 (l.getD a default) (l.getD b default)) ((List.range l.length).filter fun i => zTA (l.getD i default)) = Q2 a5 zTA l := rfl
 have hVl : (Q2 a5 zTA l).length = ((List.range l.length).filter fun i => zTA (l.getD i default)).length := by rw [← hV, H7]
 rw [hV] at ss
 clear hV
 generalize Q2 a5 zTA l = R at *
 have hst := fun p => zOX p
 have hF0 := FiP.zero zTA l
 obtain ⟨xs, hxs⟩ : ∃ xs, xs = (List.range l.length).filter fun i => zTA (l.getD i default) := ⟨_, rfl⟩
 rw [← hxs] at ss hVl hfl
 refine z9 func29 rfl (fun E hE => ?_); simp only [go_sem, ntmps29]
 refine we1 trivial ?_
 refine Q7 rfl (l.length) (fun i (B : List Nat) => FiP zTA l i B) 27 (fun i B => [(10, iV i), (9, iV l.length), (8, y8 l), (2, .ptr 0 0), (3, .ptr 1 0), (5, .own 2 1 0 B.length)]) (fun i B => [.box [y8 l], .box [zTj 185], .row 1 (B.map pnV)]) [some 0, some 1, none] [] (([] : List Nat)) (by exact hF0) ?_; intro i B hi hP
 clear hF0
 rcases Nat.lt_or_ge i l.length with hi2 | hi2
 ·obtain ⟨g1, g2⟩ := hP.go
  have hBi : B.length ≤ i := hP.2
  have sk := hst (l.getD i default)
  have hd1 : decide ((i : Int) < (l.length : Int)) = true := by simp; omega
  have hd2 : decide (i < l.length) = true := by simp; omega
  have hsq : ((l.getD i default).head != -1) = zTA (l.getD i default) := rfl
  rw [hsq] at sk
  clear hP hst ss hxs hsq
  generalize zTA (l.getD i default) = bb at *
  repeat' (first | (refine Qr rfl ?_; try intro _ hK; try simp only [go_sem, *]) | refine Qh rfl ?_ | (refine Qc rfl rfl ?_ ?_ <;> (intro hb; have hc := hb; try simp only [go_sem] at hc)) | refine z8 rfl ?_ | (with_reducible (show (∀ _ : AV, _ → _) ∧ _); refine wel ?_) | (refine y5 (sk) ?_; simp only [go_sem, *]) | ((with_reducible apply And.intro); focus omega) | (refine z7 hK ?_; clear hK; simp only [go_sem, *]) | simp only [z6, z5, go_sem, *])
  ·have hn := g1 (by assumption)
   clear g1 g2 sk hd1 hd2
   exact t7 (i' := i + 1) [some 0, some 1, some 5] [] (B ++ [i]) (by exact hn)
  ·have hn := g2 (by assumption)
   clear g1 g2 sk hd1 hd2
   exact t7 (i' := i + 1) [some 0, some 1, some 2] [] (B) (by exact hn)
 ·have he : i = l.length := by omega
  subst he
  have hB : B = xs := by rw [hxs]; exact hP.1
  have hq : ((List.range l.length).filter fun i => zTA (l.getD i default)).length = B.length := by rw [← hxs, hB]
  subst hB
  clear hP hst hxs
  have hd1 : decide ((l.length : Int) < (l.length : Int)) = false := by simp
  have hd2 : decide (l.length < l.length) = false := by simp
  refine we1 (own [2, 1, 0] (ss)) ?_
  refine ⟨[_], [some 2], [], ⟨rfl, trivial⟩, ?_⟩
  simp only [go_sem, W4, hVl, *]
  all_goals exact hq
end Go.Abs

namespace Go.Abs
open Go Go.Proofs Tryz
attribute [local irreducible] q9 Hold y2
variable [Cur]
theorem G8 (n lo hi : Int) : zSx prog 58 [iV n, iV lo, iV hi] [] (bV (btw n lo hi)) [] := by
 refine z9 func58 rfl (fun E hE => ?_); simp only [go_sem, ntmps58]
 repeat' (first | (refine Qr rfl ?_; try intro _ hK; try simp only [go_sem, *]) | (refine Qi rfl rfl rfl rfl ?_ ?_ <;> (intro hb; (try intro _ hK); have hc := hb; try simp only [go_sem] at hc; simp only [go_sem, *])) | refine Qh rfl ?_ | (refine Qc rfl rfl ?_ ?_ <;> (intro hb; have hc := hb; try simp only [go_sem] at hc)) | refine z8 rfl ?_ | ((with_reducible apply And.intro); focus omega) | (refine z7 hK ?_; clear hK; simp only [go_sem, *]) | simp only [z6, z5, go_sem, *])
 all_goals (refine ⟨[_], [], [], ⟨rfl, trivial⟩, ?_⟩; simp only [go_sem, *])
 all_goals (unfold btw; simp_all)
 all_goals omega
theorem zGa (s : Str) : zSx prog 147 [sV s] [] (bV (p9 s)) [] := by
 have e0 : s.length = 0 → p9 s = false := fun h => by unfold p9; simp [h]
 have e1 : 12 < s.length → p9 s = false := fun h => by unfold p9; simp [h]
 have e2 : s = zC7 → p9 s = false := fun h => by unfold p9; simp [h]
 have e3 : s = zC8 → p9 s = false := fun h => by unfold p9; simp [h]
 have e4 : ¬ s.length = 0 → ¬ 12 < s.length → ¬ s = zC7 → ¬ s = zC8 → p9 s = s.all R1 := fun h h' h2 h3 => by unfold p9; simp only [h, h', h2, h3, decide_false, Bool.or_self, Bool.not_false, Bool.true_and]
 generalize p9 s = W at *
 refine z9 func147 rfl (fun E hE => ?_); simp only [go_sem, ntmps147]
 repeat' (first | (refine Qr rfl ?_; try intro _ hK; try simp only [go_sem, *]) | (refine Qi rfl rfl rfl rfl ?_ ?_ <;> (intro hb; (try intro _ hK); have hc := hb; try simp only [go_sem] at hc; simp only [go_sem, *])) | refine Qh rfl ?_ | (refine Qc rfl rfl ?_ ?_ <;> (intro hb; have hc := hb; try simp only [go_sem] at hc)) | refine z8 rfl ?_ | ((with_reducible apply And.intro); focus omega) | (refine z7 hK ?_; clear hK; simp only [go_sem, *]) | simp only [z6, z5, go_sem, *])
 ·(refine ⟨[_], [], [], ⟨rfl, trivial⟩, ?_⟩; simp only [go_sem, *])
 ·have e5 := e4 (by omega) (by omega) (by assumption) (by assumption)
  clear e0 e1 e2 e3 e4
  refine y9 rfl (s.length) (fun i => SmTo s i) 32 (fun i => [(22, .ptr 0 0)]) (fun i => [.siter ⟨s.toArray⟩ i]) [some 0] [] (by exact fun j hj => absurd hj (Nat.not_lt_zero j)) ?_; intro i hi hP
  by_cases hi2 : i < s.length
  ·obtain ⟨r1, r2⟩ := zMd s hi2
   have hbad := zHY hi2
   have hnext := hP.next
   clear hP
   generalize hde : Utf8.decode ⟨s.toArray⟩ i = d at *
   obtain ⟨d1, d2⟩ := d
   simp only at r1 r2
   generalize R1 (s.getD i 0) = kb at *
   rw [← r1] at hbad hnext r2
   clear r1
   repeat' (first | (refine Qr rfl ?_; try intro _ hK; try simp only [go_sem, *]) | (refine Qi rfl rfl rfl rfl ?_ ?_ <;> (intro hb; (try intro _ hK); have hc := hb; try simp only [go_sem] at hc; simp only [go_sem, *])) | refine Qh rfl ?_ | (refine Qc rfl rfl ?_ ?_ <;> (intro hb; have hc := hb; try simp only [go_sem] at hc)) | refine z8 rfl ?_ | ((with_reducible apply And.intro); focus omega) | (refine z7 hK ?_; clear hK; simp only [go_sem, *]) | simp only [z6, z5, go_sem, *])
   all_goals by_cases hs : (97 ≤ (d1 : Int) ∧ (d1 : Int) ≤ 122)
   all_goals first
    | (exfalso; omega)
    | (have hn := hnext hs; have r3 := r2 hs; clear hnext hbad r2; exact y3 (i' := i + 1) [some 0] [] (by exact hn))
    | (have hn := hbad hs; rw [hn] at e5; (refine ⟨[_], [], [], ⟨rfl, trivial⟩, ?_⟩; simp only [go_sem, *]))
  ·have hf := hP.all (by omega)
   rw [hf] at e5
   clear hP
   refine wk1 trivial ?_
   (refine ⟨[_], [], [], ⟨rfl, trivial⟩, ?_⟩; simp only [go_sem, *])
 ·(refine ⟨[_], [], [], ⟨rfl, trivial⟩, ?_⟩; simp only [go_sem, *])
 ·(refine ⟨[_], [], [], ⟨rfl, trivial⟩, ?_⟩; simp only [go_sem, *])
  rw [e1 (by omega)]
 ·(refine ⟨[_], [], [], ⟨rfl, trivial⟩, ?_⟩; simp only [go_sem, *])
  rw [e0 (by omega)]
theorem zNb (n : Str) (u : Int) (y : Cl) : zSx prog 149 [y.enc, .ptr 0 0] [.box [sV n, iV u]] (bV (zTM n y)) [.box [sV n, iV u]] := by
 unfold zTM
 refine z9 func149 rfl (fun E hE => ?_); simp only [go_sem, ntmps149]
 refine wk1 trivial ?_
 refine ⟨[_], [some 0], [], ⟨rfl, trivial⟩, ?_⟩
 simp only [go_sem, *]
theorem zNB (n : Str) (u : Int) (l : List Cl) (hl : l.length ≤ 1000) :
  zSx prog 177 [x8 l, .fn 149 [.ptr 0 0]] [.box [sV n, iV u]] (iV (zS8 (zTM n) l 0)) [.box [sV n, iV u]] := by
 have hca : t6 prog 149 = true := by kernel_rfl
 have h0 : zS8 (zTM n) (l.drop 0) 0 = zS8 (zTM n) l 0 := rfl
 generalize zS8 (zTM n) l 0 = T at *
 refine z9 func177 rfl (fun E hE => ?_); simp only [go_sem, ntmps177]
 refine wk1 trivial ?_
 refine y9 rfl (l.length) (fun i => zS8 (zTM n) (l.drop i) i = T) 19 (fun i => [(8, iV i), (7, iV l.length), (0, x8 l), (1, .fn 149 [.ptr 0 0])]) (fun i => [.box [sV n, iV u]]) [some 0] [] (by exact h0) ?_; intro i hi hP
 clear h0
 by_cases hi2 : i < l.length
 ·have sc := zNb n u (l.getD i default)
  rw [u4 hi2, zS8] at hP
  generalize hm : (zTM n) (l.getD i default) = b at *
  clear hm
  cases b
  ·have hP : zS8 (zTM n) (l.drop (i + 1)) (i + 1) = T := hP
   refine wk1 (own [0] (sc)) ?_
   all_goals first | contradiction | omega | skip
   exact y3 (i' := i + 1) [some 0] [] (by exact hP)
  ·have hP : (i : Int) = T := hP
   subst hP
   refine wk1 (own [0] (sc)) ?_
   all_goals first | contradiction | omega | skip
   refine ⟨[_], [some 0], [], ⟨rfl, trivial⟩, ?_⟩
   simp only [go_sem, *]
 ·rw [l5 (by omega)] at hP
  have hP : (-1 : Int) = T := hP
  subst hP
  refine wk1 trivial ?_
  all_goals first | contradiction | omega | skip
  refine ⟨[_], [some 0], [], ⟨rfl, trivial⟩, ?_⟩
  simp only [go_sem, *]
theorem zM1 (n : Str) (u : Int) (l : List Cl) (hl : l.length ≤ 1000) :
  zSx prog 148 [x8 l, .fn 149 [.ptr 0 0]] [.box [sV n, iV u]] (bV (l.any (zTM n))) [.box [sV n, iV u]] := by
 have si := zNB n u l hl
 rw [← zBA (zTM n) l 0]
 generalize zS8 (zTM n) l 0 = n at *
 refine z9 func148 rfl (fun E hE => ?_); simp only [go_sem, ntmps148]
 refine wk1 (own [0] (si)) ?_
 refine ⟨[_], [some 0], [], ⟨rfl, trivial⟩, ?_⟩
 simp only [go_sem, *]
theorem zNg (l : List Cl) (i : Nat) (hi : i < l.length) (hl : l.length ≤ 1000) : zSx prog 121 [x8 l, iV i] [] (iV (Q4 l i)) [] := by
 have sw := zGa (l.getD i default).name
 have sc := zM1 (l.getD i default).name (l.getD i default).under (l.take i) (by simp; omega)
 have sb := G8 (l.getD i default).under (-1) (l.length - 1)
 have e1 : p9 (l.getD i default).name = false → Q4 l i = 2 := fun h => by unfold Q4; rw [if_pos h]
 have e2 : p9 (l.getD i default).name = true → (l.take i).any (zTM (l.getD i default).name) = true → Q4 l i = 4 := fun h h2 => by unfold Q4; rw [if_neg (by rw [h]; decide), if_pos h2]
 have e3 : p9 (l.getD i default).name = true → (l.take i).any (zTM (l.getD i default).name) = false → Q4 l i = if btw (l.getD i default).under (-1) (l.length - 1) = false then 3 else if (i : Int) ≤ (l.getD i default).under then 5 else 0 := fun h h2 => by unfold Q4; rw [if_neg (by rw [h]; decide), if_neg (by rw [h2]; decide)]
 generalize Q4 l i = R at *
 generalize p9 (l.getD i default).name = b1 at *
 generalize (l.take i).any (zTM (l.getD i default).name) = b2 at *
 generalize btw (l.getD i default).under (-1) (l.length - 1) = b3 at *
 have e4 : b1 = true → b2 = false → b3 = false → R = 3 := fun h h2 h3 => by rw [e3 h h2, if_pos h3]
 have e5 : b1 = true → b2 = false → b3 = true → (i : Int) ≤ (l.getD i default).under → R = 5 := fun h h2 h3 h4 => by rw [e3 h h2, if_neg (by rw [h3]; decide), if_pos h4]
 have e6 : b1 = true → b2 = false → b3 = true → ¬ (i : Int) ≤ (l.getD i default).under → R = 0 := fun h h2 h3 h4 => by rw [e3 h h2, if_neg (by rw [h3]; decide), if_neg h4]
 clear e3
 simp only [x8, List.map_take] at sc
 have hwl : IntKind.i64.wrap ((l.length : Int) - 1) = (l.length : Int) - 1 := wrap_i64 (by omega) (by omega)
 refine z9 func121 rfl (fun E hE => ?_); simp only [go_sem, ntmps121]
 repeat' (first | (refine Qr rfl ?_; try intro _ hK; try simp only [go_sem, *]) | refine Qh rfl ?_ | (refine Qc rfl rfl ?_ ?_ <;> (intro hb; have hc := hb; try simp only [go_sem] at hc)) | refine z8 rfl ?_ | (with_reducible (show (∀ _ : AV, _ → _) ∧ _); refine wel ?_) | ((first | refine y5 (sw) ?_ | refine y5 (sb) ?_); simp only [go_sem, *]) | (refine j5 [0] (sc) ?_; simp only [go_sem, *]) | ((with_reducible apply And.intro); focus omega) | (refine z7 hK ?_; clear hK; simp only [go_sem, *]) | simp only [z6, z5, go_sem, *])
 all_goals (refine ⟨[_], [], [], ⟨rfl, trivial⟩, ?_⟩; simp only [go_sem, *])
end Go.Abs

namespace Go.Abs
open Go Go.Proofs Tryz
attribute [local irreducible] q9 Hold y2
variable [Cur]
theorem zNc (w : Str) (c s : Int) (a : List Int) (y : Hd) : zSx prog 151 [y.enc, .ptr 0 0] [.box [sV w, iV c, iV s, .list (a.map iV)]] (bV (zTP w y)) [.box [sV w, iV c, iV s, .list (a.map iV)]] := by
 unfold zTP
 refine z9 func151 rfl (fun E hE => ?_); simp only [go_sem, ntmps151]
 refine wk1 trivial ?_
 refine ⟨[_], [some 0], [], ⟨rfl, trivial⟩, ?_⟩
 simp only [go_sem, *]
theorem zNC (w : Str) (c s : Int) (a : List Int) (l : List Hd) (hl : l.length ≤ 1000) :
  zSx prog 178 [x9 l, .fn 151 [.ptr 0 0]] [.box [sV w, iV c, iV s, .list (a.map iV)]] (iV (zS8 (zTP w) l 0)) [.box [sV w, iV c, iV s, .list (a.map iV)]] := by
 have hca : t6 prog 151 = true := by kernel_rfl
 have h0 : zS8 (zTP w) (l.drop 0) 0 = zS8 (zTP w) l 0 := rfl
 generalize zS8 (zTP w) l 0 = T at *
 refine z9 func178 rfl (fun E hE => ?_); simp only [go_sem, ntmps178]
 refine wk1 trivial ?_
 refine y9 rfl (l.length) (fun i => zS8 (zTP w) (l.drop i) i = T) 19 (fun i => [(8, iV i), (7, iV l.length), (0, x9 l), (1, .fn 151 [.ptr 0 0])]) (fun i => [.box [sV w, iV c, iV s, .list (a.map iV)]]) [some 0] [] (by exact h0) ?_; intro i hi hP
 clear h0
 by_cases hi2 : i < l.length
 ·have sc := zNc w c s a (l.getD i default)
  rw [u4 hi2, zS8] at hP
  generalize hm : (zTP w) (l.getD i default) = b at *
  clear hm
  cases b
  ·have hP : zS8 (zTP w) (l.drop (i + 1)) (i + 1) = T := hP
   refine wk1 (own [0] (sc)) ?_
   all_goals first | contradiction | omega | skip
   exact y3 (i' := i + 1) [some 0] [] (by exact hP)
  ·have hP : (i : Int) = T := hP
   subst hP
   refine wk1 (own [0] (sc)) ?_
   all_goals first | contradiction | omega | skip
   refine ⟨[_], [some 0], [], ⟨rfl, trivial⟩, ?_⟩
   simp only [go_sem, *]
 ·rw [l5 (by omega)] at hP
  have hP : (-1 : Int) = T := hP
  subst hP
  refine wk1 trivial ?_
  all_goals first | contradiction | omega | skip
  refine ⟨[_], [some 0], [], ⟨rfl, trivial⟩, ?_⟩
  simp only [go_sem, *]
theorem zM2 (w : Str) (c s : Int) (a : List Int) (l : List Hd) (hl : l.length ≤ 1000) :
  zSx prog 150 [x9 l, .fn 151 [.ptr 0 0]] [.box [sV w, iV c, iV s, .list (a.map iV)]] (bV (l.any (zTP w))) [.box [sV w, iV c, iV s, .list (a.map iV)]] := by
 have si := zNC w c s a l hl
 rw [← zBA (zTP w) l 0]
 generalize zS8 (zTP w) l 0 = n at *
 refine z9 func150 rfl (fun E hE => ?_); simp only [go_sem, ntmps150]
 refine wk1 (own [0] (si)) ?_
 refine ⟨[_], [some 0], [], ⟨rfl, trivial⟩, ?_⟩
 simp only [go_sem, *]
theorem zNh (t : Trd) (i : Nat) (hi : i < t.hds.length) (hl : t.hds.length ≤ 1000) (hc1 : t.cls.length ≤ 1000) (ha : (t.hds.getD i default).also.length ≤ 4294967296) : zSx prog 122 [t.enc, iV i] [] (iV (U3 t i)) [] := by
 have sw := zGa (t.hds.getD i default).word
 have sc := zM2 (t.hds.getD i default).word (t.hds.getD i default).cls (t.hds.getD i default).see (t.hds.getD i default).also (t.hds.take i) (by simp; omega)
 have sb := G8 (t.hds.getD i default).cls (-1) (t.cls.length - 1)
 have sb2 := G8 (t.hds.getD i default).see (-1) (t.hds.length - 1)
 have sb3 := fun n => G8 n 0 (t.hds.length - 1)
 simp only [x9, List.map_take] at sc
 obtain ⟨cls, hds⟩ := t
 simp only [Trd.enc] at *
 obtain ⟨R', hR⟩ : ∃ r, r = U3 ⟨cls, hds⟩ i := ⟨_, rfl⟩
 rw [← hR]
 unfold U3 at hR
 simp only at hR
 generalize hx : hds.getD i default = x at *
 obtain ⟨w, c, s, a⟩ := x
 simp only at *
 have hx2 : hds.getD i default = ⟨w, c, s, a⟩ := hx
 clear hx
 obtain ⟨j, hj⟩ : ∃ j : Nat, j = i - 1 := ⟨_, rfl⟩
 rw [← hj] at hR
 obtain ⟨bi, hbi⟩ : ∃ b : Bool, b = decide ((i : Int) > 0) := ⟨_, rfl⟩
 have hi1 : decide ((i : Int) > 0) = bi := hbi.symm
 have hii : (0 < i) = (bi = true) := by rw [hbi]; simp
 have hi6 : decide (0 < i) = bi := by rw [hbi]; simp
 replace hR : R' = if p9 w = false then 2 else if (hds.take i).any (zTP w) = true then 4 else if bi = true ∧ u3 w (hds.getD j default).word = true then 5 else if btw c (-1) (cls.length - 1) = false ∨ btw s (-1) (hds.length - 1) = false then 3 else if s = i then 9
  else if u0 (W9 hds.length i a) a.length 0 ≠ 0 then u0 (W9 hds.length i a) a.length 0 else Y2 ⟨w, c, s, a⟩ := by
  rw [hR]
  generalize u3 w (hds.getD j default).word = b3
  have hq : (0 < i ∧ b3 = true) = (bi = true ∧ b3 = true) := by rw [hii]
  by_cases hx : bi = true ∧ b3 = true
  ·have hy : 0 < i ∧ b3 = true := by rw [hq]; exact hx
   rw [if_pos hx, if_pos hy]
  ·have hy : ¬ (0 < i ∧ b3 = true) := by rw [hq]; exact hx
   rw [if_neg hx, if_neg hy]
 have hwj : bi = true → IntKind.i64.wrap ((i : Int) - 1) = (j : Int) := fun h => by rw [← hii] at h; rw [wrap_i64 (by omega) (by omega)]; omega
 have hj2 : bi = true → j < hds.length := fun h => by rw [← hii] at h; omega
 have hwc : IntKind.i64.wrap ((cls.length : Int) - 1) = (cls.length : Int) - 1 := wrap_i64 (by omega) (by omega)
 have hwh : IntKind.i64.wrap ((hds.length : Int) - 1) = (hds.length : Int) - 1 := wrap_i64 (by omega) (by omega)
 clear hbi hj hii
 generalize p9 w = b1 at *
 generalize (hds.take i).any (zTP w) = b2 at *
 generalize btw c (-1) (cls.length - 1) = b4 at *
 generalize btw s (-1) (hds.length - 1) = b5 at *
 generalize hF : u0 (W9 hds.length i a) a.length 0 = F at *
 have hF : u0 (W9 hds.length i a) (a.length - 0) 0 = F := hF
 obtain ⟨H, hH⟩ : ∃ H : Prop, H = (R' = if b1 = false then 2 else if b2 = true then 4 else if bi = true ∧ u3 w (hds.getD j default).word = true then 5 else if b4 = false ∨ b5 = false then 3 else if s = i then 9 else if F ≠ 0 then F else Y2 ⟨w, c, s, a⟩) := ⟨_, rfl⟩
 rw [← hH] at hR
 cases bi
 all_goals (refine z9 func122 rfl (fun E hE => ?_); simp only [go_sem, ntmps122])
 all_goals (repeat' (first | (refine Qr rfl ?_; try intro _ hK; try simp only [go_sem, *]) | (refine Qi rfl rfl rfl rfl ?_ ?_ <;> (intro hb; (try intro _ hK); have hc := hb; try simp only [go_sem] at hc; simp only [go_sem, *])) | refine Qh rfl ?_ | refine Qd rfl (by kernel_rfl) ?_ | (refine Qc rfl rfl ?_ ?_ <;> (intro hb; have hc := hb; try simp only [go_sem] at hc)) | refine z8 rfl ?_ | (with_reducible (show (∀ _ : AV, _ → _) ∧ _); refine wel ?_) | (refine Qb ?_ ?_; focus kernel_rfl) | (refine y5 (sw) ?_; simp only [go_sem, *]) | (refine j5 [1] (sc) ?_; simp only [go_sem, *]) | (refine r7 (sb) ?_ ?_; (focus (simp only [go_sem, *]; done)); simp only [go_sem, *]) | (refine r7 (sb2) ?_ ?_; (focus (simp only [go_sem, *]; done)); simp only [go_sem, *]) | ((with_reducible apply And.intro); focus omega) | (refine z7 hK ?_; clear hK; simp only [go_sem, *]) | simp only [z6, z5, go_sem, *]))
 all_goals try (focus ((refine ⟨[_], [], [], ⟨rfl, trivial⟩, ?_⟩; simp only [go_sem, *]); refine S1 ?_; clear sw sc sb sb2 sb3 hwj hj2 hwc hwh hi1 hi6 hx2 hi hl hc1 ha; rw [hH] at hR; clear hH; rw [hR]; clear hR; (repeat' split) <;> simp_all; done))
 all_goals try (focus (exfalso; clear sw sc sb sb2 sb3 hwj hj2 hwc hwh hi1 hi6 hx2 hi hl hc1 ha hH hR; simp_all; done))
 all_goals have h7 : R' = if F ≠ 0 then F else Y2 ⟨w, c, s, a⟩ := by clear sw sc sb sb2 sb3 hwj hj2 hwc hwh hi1 hi6 hx2 hi hl hc1 ha; rw [hH] at hR; rw [hR]; clear hR hH; (repeat' split) <;> simp_all
 all_goals clear sw sc sb sb2 hwj hwc hR hH hj2 hi1 hi6
 all_goals (refine y9 rfl (a.length) (fun k => u0 (W9 hds.length i a) (a.length - k) k = F) 125 (fun k => [(65, iV k), (64, iV a.length), (63, .list (a.map iV)), (5, x9 hds), (6, .ptr 0 0), (1, iV i)]) (fun k => [.box [sV w, iV c, iV s, .list (a.map iV)]]) [some 1] [] (by exact hF) ?_; intro k hk hP)
 all_goals clear hF
 all_goals rcases Nat.lt_or_ge k a.length with hk2 | hk2
 rotate_left 1
 ·
  have hk4 : a.length - k = 0 := Nat.sub_eq_zero_of_le hk2
  rw [hk4] at hP
  have hP : (0 : Int) = F := hP
  subst hP
  have h8 : R' = Y2 ⟨w, c, s, a⟩ := by rw [h7, if_neg (by simp)]
  clear h7
  have h9 : decide ((k : Int) < (a.length : Int)) = false := by simp; omega
  have h9b : decide (k < a.length) = false := by simp; omega
  repeat' (first | (refine Qr rfl ?_; try intro _ hK; try simp only [go_sem, *]) | (refine Qi rfl rfl rfl rfl ?_ ?_ <;> (intro hb; (try intro _ hK); have hc := hb; try simp only [go_sem] at hc; simp only [go_sem, *])) | refine Qh rfl ?_ | refine Qd rfl (by kernel_rfl) ?_ | (refine Qc rfl rfl ?_ ?_ <;> (intro hb; have hc := hb; try simp only [go_sem] at hc)) | refine z8 rfl ?_ | (with_reducible (show (∀ _ : AV, _ → _) ∧ _); refine wel ?_) | (refine Qb ?_ ?_; focus kernel_rfl) | ((with_reducible apply And.intro); focus omega) | (refine z7 hK ?_; clear hK; simp only [go_sem, *]) | simp only [z6, z5, go_sem, *])
  all_goals first | contradiction | omega | skip
  all_goals ((refine ⟨[_], [], [], ⟨rfl, trivial⟩, ?_⟩; simp only [go_sem, *]))
  all_goals (refine S1 ?_; clear h8; unfold Y2; (repeat' split) <;> simp_all <;> omega)
 rotate_left 1
 ·
  have hk4 : a.length - k = 0 := Nat.sub_eq_zero_of_le hk2
  rw [hk4] at hP
  have hP : (0 : Int) = F := hP
  subst hP
  have h8 : R' = Y2 ⟨w, c, s, a⟩ := by rw [h7, if_neg (by simp)]
  clear h7
  have h9 : decide ((k : Int) < (a.length : Int)) = false := by simp; omega
  have h9b : decide (k < a.length) = false := by simp; omega
  repeat' (first | (refine Qr rfl ?_; try intro _ hK; try simp only [go_sem, *]) | (refine Qi rfl rfl rfl rfl ?_ ?_ <;> (intro hb; (try intro _ hK); have hc := hb; try simp only [go_sem] at hc; simp only [go_sem, *])) | refine Qh rfl ?_ | refine Qd rfl (by kernel_rfl) ?_ | (refine Qc rfl rfl ?_ ?_ <;> (intro hb; have hc := hb; try simp only [go_sem] at hc)) | refine z8 rfl ?_ | (with_reducible (show (∀ _ : AV, _ → _) ∧ _); refine wel ?_) | (refine Qb ?_ ?_; focus kernel_rfl) | ((with_reducible apply And.intro); focus omega) | (refine z7 hK ?_; clear hK; simp only [go_sem, *]) | simp only [z6, z5, go_sem, *])
  all_goals first | contradiction | omega | skip
  all_goals ((refine ⟨[_], [], [], ⟨rfl, trivial⟩, ?_⟩; simp only [go_sem, *]))
  all_goals (refine S1 ?_; clear h8; unfold Y2; (repeat' split) <;> simp_all <;> omega)
 all_goals (
  have hk1 : a.length - k = (a.length - (k + 1)) + 1 := by omega
  rw [hk1] at hP
  have hA : W9 hds.length i a k = if btw (a.getD k 0) 0 (↑hds.length - 1) = false then 3 else if a.getD k 0 = ↑i then 9 else if 0 < k ∧ a.getD k 0 ≤ a.getD (k - 1) 0 then 5 else 0 := rfl
  rw [u0, hA] at hP
  clear hA
  clear hk1
  have sbn := sb3 (a.getD k 0)
  clear sb3
  obtain ⟨kj, hkj⟩ : ∃ j : Nat, j = k - 1 := ⟨_, rfl⟩
  rw [← hkj] at hP
  obtain ⟨bk, hbk⟩ : ∃ b : Bool, b = decide ((k : Int) > 0) := ⟨_, rfl⟩
  have hk5 : decide ((k : Int) > 0) = bk := hbk.symm
  have hki : (0 < k) = (bk = true) := by rw [hbk]; simp
  have hk6 : decide (0 < k) = bk := by rw [hbk]; simp
  have hwk : bk = true → IntKind.i64.wrap ((k : Int) - 1) = (kj : Int) := fun h => by rw [← hki] at h; rw [wrap_i64 (by omega) (by omega)]; omega
  have hkl : bk = true → kj < a.length := fun h => by rw [← hki] at h; omega
  clear hbk hkj
  generalize hG : u0 (W9 hds.length i a) (a.length - (k + 1)) (k + 1) = G at *
  have hG2 : G = F → u0 (W9 hds.length i a) (a.length - (k + 1)) (k + 1) = F := fun h => hG.trans h
  have hkq : (0 < k ∧ a.getD k 0 ≤ a.getD kj 0) = (bk = true ∧ a.getD k 0 ≤ a.getD kj 0) := by rw [hki]
  have hif : (if 0 < k ∧ a.getD k 0 ≤ a.getD kj 0 then (5 : Int) else 0) = if bk = true ∧ a.getD k 0 ≤ a.getD kj 0 then 5 else 0 := by
   by_cases hx : bk = true ∧ a.getD k 0 ≤ a.getD kj 0
   ·rw [if_pos hx, if_pos (by rw [hkq]; exact hx)]
   ·rw [if_neg hx, if_neg (by rw [hkq]; exact hx)]
  rw [hif] at hP
  clear hif hkq hki
  have hP : (if (if btw (a.getD k 0) 0 (↑hds.length - 1) = false then 3 else if a.getD k 0 = ↑i then 9 else if bk = true ∧ a.getD k 0 ≤ a.getD kj 0 then 5 else 0) = (0 : Int) then G else (if btw (a.getD k 0) 0 (↑hds.length - 1) = false then 3 else if a.getD k 0 = ↑i then 9 else if bk = true ∧ a.getD k 0 ≤ a.getD kj 0 then 5 else 0)) = F := by simpa only [hG] using hP
  clear hG
  have hd0 : ∀ q : Nat, a.getD q 0 = a.getD q default := fun q => rfl
  simp only [hd0] at hP sbn
  generalize btw (a.getD k default) 0 (↑hds.length - 1) = b6 at *
  have hL : ∀ n m : Int, n = a.getD k default → m = a.getD kj default → (if (if b6 = false then 3 else if n = ↑i then 9 else if bk = true ∧ n ≤ m then 5 else 0) = (0 : Int) then G else (if b6 = false then 3 else if n = ↑i then 9 else if bk = true ∧ n ≤ m then 5 else 0)) = F := fun n m h1 h2 => by rw [h1, h2]; exact hP
  clear hP hd0
  obtain ⟨n, hn⟩ : ∃ n, n = a.getD k default := ⟨_, rfl⟩
  obtain ⟨m, hm⟩ : ∃ m, m = a.getD kj default := ⟨_, rfl⟩
  have hP := hL n m hn hm
  clear hL
  rw [← hn] at sbn
  have f1 : b6 = false → R' = 3 := fun h => by subst h; rw [if_neg (by simp)] at hP; rw [h7, ← hP]; simp
  have f2 : b6 = true → n = i → R' = 9 := fun h h2 => by subst h h2; rw [if_neg (by simp)] at hP; rw [h7, ← hP]; simp
  have f3 : b6 = true → ¬ n = i → bk = true → n ≤ m → R' = 5 := fun h h2 h3 h4 => by subst h h3; rw [if_neg (by simp [h2, h4])] at hP; rw [h7, ← hP]; simp [h2, h4]
  have f4 : b6 = true → ¬ n = i → (bk = true → ¬ n ≤ m) → u0 (W9 hds.length i a) (a.length - (k + 1)) (k + 1) = F := fun h h2 h3 => hG2 (by subst h; rw [if_pos (by simp [h2]; exact fun q => by have := h3 q; omega)] at hP; exact hP)
  clear hP h7 hG2
  subst hn hm
  have h9 : decide ((k : Int) < (a.length : Int)) = true := by simp; omega
  have h9b : decide (k < a.length) = true := by simp; omega
  (repeat' (first | (refine Qr rfl ?_; try intro _ hK; try simp only [go_sem, *]) | (refine Qi rfl rfl rfl rfl ?_ ?_ <;> (intro hb; (try intro _ hK); have hc := hb; try simp only [go_sem] at hc; simp only [go_sem, *])) | refine Qh rfl ?_ | refine Qd rfl (by kernel_rfl) ?_ | (refine Qc rfl rfl ?_ ?_ <;> (intro hb; have hc := hb; try simp only [go_sem] at hc)) | refine z8 rfl ?_ | (with_reducible (show (∀ _ : AV, _ → _) ∧ _); refine wel ?_) | (refine Qb ?_ ?_; focus kernel_rfl) | (refine y5 (sbn) ?_; simp only [go_sem, *]) | ((with_reducible apply And.intro); focus omega) | (refine z7 hK ?_; clear hK; simp only [go_sem, *]) | simp only [z6, z5, go_sem, *]))
  all_goals first | contradiction | omega | skip
  all_goals try (focus ((refine ⟨[_], [], [], ⟨rfl, trivial⟩, ?_⟩; simp only [go_sem, *]); done))
  all_goals (
   have hnx : bk = true → ¬ a.getD k default ≤ a.getD kj default := fun h => by first | omega | exact Bool.noConfusion (h.symm.trans (show bk = false by assumption))
   have hnf := f4 (by assumption) (by assumption) hnx
   clear f1 f2 f3 f4 hnx hwk hkl hk5 hk6 sbn h9 h9b
   exact y3 (i' := k + 1) [some 0] [] (by exact hnf)))
end Go.Abs

namespace Go.Abs
open Go Go.Proofs Tryz
attribute [local irreducible] q9 Hold y2
variable [Cur]
theorem zEQ {f : Nat → Int} {n k : Nat} {F : Int} (hk : k < n) (h : u0 f (n - k) k = F) : (f k ≠ 0 → F = f k) ∧ (f k = 0 → u0 f (n - (k + 1)) (k + 1) = F) := by
 have e : n - k = (n - (k + 1)) + 1 := by omega
 rw [e] at h
 exact ⟨fun q => by rw [← h, zER q], fun q => by rw [← h, zEP q]⟩
theorem zEO {f : Nat → Int} {n k : Nat} {F : Int} (hk : n ≤ k) (h : u0 f (n - k) k = F) : F = 0 := by
 have e : n - k = 0 := by omega
 rw [e] at h
 exact h.symm
theorem zGZ (t : Trd) (h1 : t.cls.length ≤ 4294967296) (h2 : t.hds.length ≤ 4294967296) (ha : ∀ h, h ∈ t.hds → h.also.length ≤ 4294967296) : zSx prog 95 [t.enc] [] (iV (b8 t)) [] := by
 have sc := zNg t.cls
 have sh := zNh t
 obtain ⟨R, hR⟩ : ∃ r, r = b8 t := ⟨_, rfl⟩
 rw [← hR]
 unfold b8 at hR
 obtain ⟨cls, hds⟩ := t
 simp only [Trd.enc] at *
 generalize hF1 : u0 (Q4 cls) cls.length 0 = F1 at *
 generalize hF2 : u0 (U3 ⟨cls, hds⟩) hds.length 0 = F2 at *
 by_cases hbig : 6 < cls.length ∨ 6 < hds.length
 ·rw [if_pos hbig] at hR
  clear hF1 hF2 sc sh ha
  refine z9 func95 rfl (fun E hE => ?_); simp only [go_sem, ntmps95]
  repeat' (first | (refine Qr rfl ?_; try intro _ hK; try simp only [go_sem, *]) | (refine Qi rfl rfl rfl rfl ?_ ?_ <;> (intro hb; (try intro _ hK); have hc := hb; try simp only [go_sem] at hc; simp only [go_sem, *])) | refine Qh rfl ?_ | (refine Qc rfl rfl ?_ ?_ <;> (intro hb; have hc := hb; try simp only [go_sem] at hc)) | refine z8 rfl ?_ | (with_reducible (show (∀ _ : AV, _ → _) ∧ _); refine wel ?_) | ((with_reducible apply And.intro); focus omega) | (refine z7 hK ?_; clear hK; simp only [go_sem, *]) | simp only [z6, z5, go_sem, *])
  all_goals first | (exfalso; omega) | skip
  all_goals (refine ⟨[_], [], [], ⟨rfl, trivial⟩, ?_⟩; simp only [go_sem, *])
 ·rw [if_neg hbig] at hR
  have hc6 : cls.length ≤ 6 := by omega
  have hh6 : hds.length ≤ 6 := by omega
  clear hbig h1 h2
  have hF1 : u0 (Q4 cls) (cls.length - 0) 0 = F1 := hF1
  have hF2 : u0 (U3 ⟨cls, hds⟩) (hds.length - 0) 0 = F2 := hF2
  have r1 : F1 ≠ 0 → R = F1 := fun h => by rw [hR, if_pos h]
  have r2 : F1 = 0 → R = F2 := fun h => by rw [hR, if_neg (by simp [h])]
  clear hR
  have hT1 : decide ((cls.length : Int) > 6) = false := by simp; omega
  have hT2 : decide ((hds.length : Int) > 6) = false := by simp; omega
  have hT3 : decide (6 < cls.length) = false := by simp; omega
  have hT4 : decide (6 < hds.length) = false := by simp; omega
  refine z9 func95 rfl (fun E hE => ?_); simp only [go_sem, ntmps95]
  refine we1 trivial ?_
  clear hT1 hT2 hT3 hT4
  (refine y9 rfl (cls.length) (fun k => u0 (Q4 cls) (cls.length - k) k = F1) 44 (fun k => [(20, iV k), (19, iV cls.length), (1, .ptr 0 0)]) (fun k => [.box [x8 cls, x9 hds]]) [some 0] [] (by exact hF1) ?_; intro k hk hP)
  clear hF1
  rcases Nat.lt_or_ge k cls.length with hk2 | hk2
  ·obtain ⟨g1, g2⟩ := zEQ hk2 hP
   have sk := sc k hk2 (by omega)
   clear hP sc sh ha hF2 r2
   generalize Q4 cls k = e at *
   have r3 : ¬ e = 0 → R = e := fun h => by rw [r1 (by rw [g1 h]; exact h), g1 h]
   have hd1 : decide ((k : Int) < (cls.length : Int)) = true := by simp; omega
   have hd2 : decide (k < cls.length) = true := by simp; omega
   clear r1 g1
   repeat' (first | (refine Qr rfl ?_; try intro _ hK; try simp only [go_sem, *]) | (refine Qi rfl rfl rfl rfl ?_ ?_ <;> (intro hb; (try intro _ hK); have hc := hb; try simp only [go_sem] at hc; simp only [go_sem, *])) | refine Qh rfl ?_ | (refine Qc rfl rfl ?_ ?_ <;> (intro hb; have hc := hb; try simp only [go_sem] at hc)) | refine z8 rfl ?_ | (with_reducible (show (∀ _ : AV, _ → _) ∧ _); refine wel ?_) | (refine y5 (sk) ?_; simp only [go_sem, *]) | ((with_reducible apply And.intro); focus omega) | (refine z7 hK ?_; clear hK; simp only [go_sem, *]) | simp only [z6, z5, go_sem, *])
   all_goals try (focus ((refine ⟨[_], [], [], ⟨rfl, trivial⟩, ?_⟩; simp only [go_sem, *]); done))
   all_goals (have hn := g2 (by assumption); clear g2 sk r3 hd1 hd2; exact y3 (i' := k + 1) [some 0] [] (by exact hn))
  ·have hz := zEO hk2 hP
   replace r2 := r2 hz
   subst r2
   have hd1 : decide ((k : Int) < (cls.length : Int)) = false := by simp; omega
   have hd2 : decide (k < cls.length) = false := by simp; omega
   clear hP sc r1 hz
   refine we1 trivial ?_
   clear hd1 hd2
   (refine y9 rfl (hds.length) (fun i => u0 (U3 ⟨cls, hds⟩) (hds.length - i) i = R) 44 (fun i => [(34, iV i), (33, iV hds.length), (1, .ptr 0 0)]) (fun i => [.box [x8 cls, x9 hds]]) [some 0] [] (by exact hF2) ?_; intro i hi hQ)
   clear hF2
   rcases Nat.lt_or_ge i hds.length with hi2 | hi2
   ·obtain ⟨g1, g2⟩ := zEQ hi2 hQ
    have sk := sh i hi2 (by first | omega | (simp only; omega)) (by first | omega | (simp only; omega)) (ha _ (j9 hi2))
    clear hQ sh ha
    generalize U3 ⟨cls, hds⟩ i = e at *
    have r3 : ¬ e = 0 → R = e := fun h => g1 h
    have hd1 : decide ((i : Int) < (hds.length : Int)) = true := by simp; omega
    have hd2 : decide (i < hds.length) = true := by simp; omega
    clear g1
    repeat' (first | (refine Qr rfl ?_; try intro _ hK; try simp only [go_sem, *]) | (refine Qi rfl rfl rfl rfl ?_ ?_ <;> (intro hb; (try intro _ hK); have hc := hb; try simp only [go_sem] at hc; simp only [go_sem, *])) | refine Qh rfl ?_ | (refine Qc rfl rfl ?_ ?_ <;> (intro hb; have hc := hb; try simp only [go_sem] at hc)) | refine z8 rfl ?_ | (with_reducible (show (∀ _ : AV, _ → _) ∧ _); refine wel ?_) | (refine y5 (sk) ?_; simp only [go_sem, *]) | ((with_reducible apply And.intro); focus omega) | (refine z7 hK ?_; clear hK; simp only [go_sem, *]) | simp only [z6, z5, go_sem, *])
    all_goals try (focus ((refine ⟨[_], [], [], ⟨rfl, trivial⟩, ?_⟩; simp only [go_sem, *]); done))
    all_goals (have hn := g2 (by assumption); clear g2 sk r3 hd1 hd2; exact y3 (i' := i + 1) [some 0] [] (by exact hn))
   ·have hz := zEO hi2 hQ
    have hd1 : decide ((i : Int) < (hds.length : Int)) = false := by simp; omega
    have hd2 : decide (i < hds.length) = false := by simp; omega
    clear hQ sh ha
    subst hz
    refine we1 trivial ?_
    all_goals (refine ⟨[_], [], [], ⟨rfl, trivial⟩, ?_⟩; simp only [go_sem, *])
end Go.Abs

namespace Go.Abs
open Go Go.Proofs Tryz
attribute [local irreducible] q9 Hold y2
variable [Cur]
abbrev u8V (n : Int) : AV := .raw (.int .u8 n)
def or8 (a b : Int) : Int := IntKind.u8.wrap (BitVec.ofInt IntKind.u8.bits a ||| BitVec.ofInt IntKind.u8.bits b).toNat
def zTn (a b : Int) : Int := IntKind.u8.wrap (BitVec.ofInt IntKind.u8.bits a &&& BitVec.ofInt IntKind.u8.bits b).toNat
def zUQ (a : Int) (k : Nat) : Int := IntKind.u8.wrap (a * 2 ^ (min k IntKind.u8.bits))
def zUb (a : Int) (k : Nat) : Int := a.fdiv (2 ^ (min k IntKind.u8.bits))
@[go_sem ↓] theorem zRV (a b : Int) (K : Cont) : zTq .or .u8 a b K = K (u8V (or8 a b)) [] [] := rfl
@[go_sem ↓] theorem zRU (a b : Int) (K : Cont) : zTq .and .u8 a b K = K (u8V (zTn a b)) [] [] := rfl
@[go_sem ↓] theorem zSi (a b : Int) (K : Cont) : N8 .shl .u8 a b K = (0 ≤ b ∧ K (u8V (zUQ a b.toNat)) [] []) := rfl
@[go_sem ↓] theorem zSk (a b : Int) (K : Cont) : N8 .shr .u8 a b K = (0 ≤ b ∧ K (u8V (zUb a b.toNat)) [] []) := rfl
def T2 (s : Int) (n : Nat) : Int := or8 s (zUQ 1 n)
def zTE (s : Int) (n : Nat) : Bool := zTn (zUb s n) 1 == 1
theorem zOh (s : Int) (n : Nat) : zSx prog 96 [u8V s, iV n] [] (u8V (T2 s n)) [] := by
 have e : T2 s n = or8 s (zUQ 1 n) := rfl
 refine z9 func96 rfl (fun E hE => ?_); simp only [go_sem, ntmps96]
 refine wk1 trivial ?_
 (refine ⟨[_], [], [], ⟨rfl, trivial⟩, ?_⟩; simp only [go_sem, *])
theorem zGP (s : Int) (n : Nat) : zSx prog 59 [u8V s, iV n] [] (bV (zTE s n)) [] := by
 have e : zTE s n = (zTn (zUb s n) 1 == 1) := rfl
 refine z9 func59 rfl (fun E hE => ?_); simp only [go_sem, ntmps59]
 refine wk1 trivial ?_
 (refine ⟨[_], [], [], ⟨rfl, trivial⟩, ?_⟩; simp only [go_sem, *])
@[go_sem] theorem zRF (H : Nat → AObj) (n : Nat) (t : TypeId) (v : Value) : zSz H (n + 1) (.raw (.iface t v)) = (.raw (.iface t v), []) := rfl
def zTS : List Cl → Nat → List Int → List Int
 | [], _, acc => acc
 | c :: r, i, acc => zTS r (i + 1) (acc ++ [if 0 ≤ c.under then or8 (T2 0 i) (acc.getD c.under.toNat 0) else T2 0 i])
omit [Cur] in
theorem zAr : ∀ (l : List Cl) (i : Nat) (acc : List Int), (zTS l i acc).length = acc.length + l.length
 | [], _, _ => rfl
 | c :: r, i, acc => by rw [zTS, zAr]; simp; omega
def l6 (h : Hd) : AV := if h.see ≠ -1 then .raw (.iface 196 (.agg #[.int .i64 h.see])) else if h.cls ≠ -1 then .ifc 182 (.agg [iV h.cls, .list (h.also.map iV)]) else .ifc 198 (.agg [.list (h.also.map iV)])
omit [Cur] in
theorem zA5 {f : Nat → Int} : ∀ {n k : Nat}, u0 f n k = 0 → ∀ j, k ≤ j → j < k + n → f j = 0
 | 0, k, _, j, h1, h2 => by omega
 | n + 1, k, h, j, h1, h2 => by
  by_cases hk : f k = 0
  ·rw [zEP hk] at h
   by_cases e : j = k
   ·rw [e]; exact hk
   ·exact zA5 h j (by omega) (by omega)
  ·rw [zER hk] at h
   exact absurd h hk
omit [Cur] in
theorem zIB {t : Trd} (v : b8 t = 0) {k : Nat} (hk : k < t.cls.length) : -1 ≤ (t.cls.getD k default).under ∧ (t.cls.getD k default).under < k := by
 unfold b8 at v
 split at v
 ·simp at v
 split at v
 ·exact absurd v (by assumption)
 rename_i h1 h2
 have := zA5 (by simpa using h2) k (Nat.zero_le _) (by omega)
 unfold Q4 at this
 split at this
 ·simp at this
 split at this
 ·simp at this
 split at this
 ·simp at this
 split at this
 ·simp at this
 rename_i q1 q2
 unfold btw at q1
 simp at q1
 constructor
 ·simpa using q1.1
 ·simpa using q2
omit [Cur] in
theorem R3 {t : Trd} (v : b8 t = 0) : t.cls.length ≤ 6 ∧ t.hds.length ≤ 6 := by
 unfold b8 at v
 split at v
 ·simp at v
 ·omega
def AbP (cls : List Cl) (T : List Int) (k : Nat) (A : List Int) : Prop := zTS (cls.drop k) k A = T ∧ A.length = k
theorem AbP.go {cls : List Cl} {T : List Int} {k : Nat} {A : List Int} (h : AbP cls T k A) (hk : k < cls.length) : ∀ x, x = (if 0 ≤ (cls.getD k default).under then or8 (T2 0 k) (A.getD (cls.getD k default).under.toNat 0) else T2 0 k) → AbP cls T (k + 1) (A ++ [x]) := fun x hx => by
 obtain ⟨h1, h2⟩ := h
 rw [u4 hk, zTS] at h1
 exact ⟨by rw [hx]; exact h1, by simp [h2]⟩
theorem AbP.fin {cls : List Cl} {T : List Int} {k : Nat} {A : List Int} (h : AbP cls T k A) (hk : cls.length ≤ k) : A = T := by
 have := h.1
 rw [l5 hk] at this
 exact this
theorem zGY (t : Trd) (v : b8 t = 0) (ha : ∀ h, h ∈ t.hds → h.also.length ≤ 4294967296) : zSx prog 57 [t.enc] [] (.tup [.ptr 0 0, iV 0])
    [.box [x8 t.cls, x9 t.hds, .own 1 1 0 t.cls.length, .own 2 1 0 t.hds.length], .row 1 ((zTS t.cls 0 []).map u8V), .row 1 (t.hds.map l6)] := by
  obtain ⟨hc6, hh6⟩ := R3 v
  have sc := zGZ t (by omega) (by omega) ha
  have hu := fun k => zIB (k := k) v
  rw [v] at sc
  clear v ha
  obtain ⟨cls, hds⟩ := t
  simp only [Trd.enc] at *
  have hlen := zAr cls 0 []
  have hT0 : zTS (cls.drop 0) 0 [] = zTS cls 0 [] := rfl
  generalize zTS cls 0 [] = T at *
  have hA0 : AbP cls T 0 [] := ⟨hT0, rfl⟩
  clear hT0
  refine z9 func57 rfl (fun E hE => ?_); simp only [go_sem, ntmps57]
  refine we1 sc ?_
  refine Q7 rfl (cls.length) (fun k (A : List Int) => AbP cls T k A) 111 (fun k A => [(22, iV k), (21, iV cls.length), (20, x8 cls), (1, .ptr 0 0), (5, .ptr 1 0)]) (fun k A => [.box [x8 cls, x9 hds], .box [x8 cls, x9 hds, .own 2 1 0 A.length, .raw (.slice none 0 0)], .row 1 (A.map u8V)]) [some 0, some 1, none] [] (([] : List Int)) (by exact hA0) ?_; intro k A hk hP
  clear hA0 sc
  rcases Nat.lt_or_ge k cls.length with hk2 | hk2
  · have hub := hu k hk2
    have hgo := hP.go hk2
    have hAk : A.length = k := hP.2
    have sw := zOh 0 k
    have hd1 : decide ((k : Int) < (cls.length : Int)) = true := by simp; omega
    have hd2 : decide (k < cls.length) = true := by simp; omega
    clear hP hu
    generalize T2 0 k = s0 at *
    generalize hcu : (cls.getD k default).under = u at *
    by_cases h0 : 0 ≤ u
    · have hget : (A.map u8V).getD u.toNat AV.any = u8V (A.getD u.toNat 0) := by
        have : u.toNat < A.length := by omega
        simp [List.getD, this]
      have hn := hgo _ (if_pos h0).symm
      have hdu : decide (u ≥ 0) = true := by simp; omega
      generalize A.getD u.toNat 0 = q at *
      clear hgo
      have hul : u < k := hub.2
      refine we1 sw ?_
      clear sw hget hdu hd1 hd2
      exact t7 (i' := k + 1) [some 0, some 1, some 5] [] (A ++ [or8 s0 q]) (by exact hn)
    · have hn := hgo _ (if_neg h0).symm
      have hdu : decide (u ≥ 0) = false := by simp; omega
      clear hgo
      refine we1 sw ?_
      clear sw hdu hd1 hd2
      exact t7 (i' := k + 1) [some 0, some 1, some 5] [] (A ++ [s0]) (by exact hn)
  · have hAT := hP.fin hk2
    have hAl : A.length = cls.length := by rw [hAT]; simpa using hlen
    have hd1 : decide ((k : Int) < (cls.length : Int)) = false := by simp; omega
    have hd2 : decide (k < cls.length) = false := by simp; omega
    clear hP hlen
    subst hAT
    refine we1 trivial ?_
    clear hd1 hd2
    refine y9 rfl (hds.length) (fun h => NoT h) 111 (fun h => [(56, iV h), (55, iV hds.length), (54, x9 hds), (5, .ptr 1 0)]) (fun h => [.box [x8 cls, x9 hds], .box [x8 cls, x9 hds, .own 2 1 0 cls.length, .own 3 1 0 h], .row 1 (A.map u8V), .row 1 ((hds.take h).map l6)]) [some 0, some 1, some 2, none] [] (by trivial) ?_; intro h hh hQ
    rcases Nat.lt_or_ge h hds.length with hh2 | hh2
    · have hd1 : decide ((h : Int) < (hds.length : Int)) = true := by simp; omega
      have hd2 : decide (h < hds.length) = true := by simp; omega
      have hkx : l6 (hds.getD h default) = _ := rfl
      have hnx : (hds.take (h + 1)).map l6 = (hds.take h).map l6 ++ [l6 (hds.getD h default)] := by
        rw [List.take_succ_eq_append_getElem hh2, List.map_append]
        simp [List.getD, hh2]
      have hlt : ((hds.take h).map l6).length = h := by simp; omega
      generalize hx : hds.getD h default = x at *
      obtain ⟨w, c, s, a⟩ := x
      clear hkx
      by_cases h1 : s = -1
      · by_cases h2 : c = -1
        · have hk : l6 ⟨w, c, s, a⟩ = .ifc 198 (.agg [.list (a.map iV)]) := by unfold l6; rw [if_neg (by simp [h1]), if_neg (by simp [h2])]
          rw [hk] at hnx
          have hd3 : (s != -1) = false := by simp [h1]
          have hd4 : (c != -1) = false := by simp [h2]
          clear hk h1 h2
          refine we1 trivial ?_
          clear hd1 hd2 hlt
          exact y3 (i' := h + 1) [some 0, some 1, some 2, some 6] [] (by trivial)
        · have hk : l6 ⟨w, c, s, a⟩ = .ifc 182 (.agg [iV c, .list (a.map iV)]) := by unfold l6; rw [if_neg (by simp [h1]), if_pos h2]
          rw [hk] at hnx
          have hd3 : (s != -1) = false := by simp [h1]
          have hd4 : (c != -1) = true := by simp [h2]
          clear hk h1 h2
          refine we1 trivial ?_
          clear hd1 hd2 hlt
          exact y3 (i' := h + 1) [some 0, some 1, some 2, some 6] [] (by trivial)
      · have hk : l6 ⟨w, c, s, a⟩ = .raw (.iface 196 (.agg #[.int .i64 s])) := by unfold l6; rw [if_pos h1]
        rw [hk] at hnx
        have hd3 : (s != -1) = true := by simp [h1]
        clear hk h1
        refine we1 trivial ?_
        clear hd1 hd2 hlt
        exact y3 (i' := h + 1) [some 0, some 1, some 2, some 6] [] (by trivial)
    · have hd1 : decide ((h : Int) < (hds.length : Int)) = false := by simp; omega
      have hd2 : decide (h < hds.length) = false := by simp; omega
      have he : h = hds.length := by omega
      subst he
      simp only [List.take_length]
      refine we1 trivial ?_
      refine ⟨[_, _], [some 1, some 2, some 3], [], ⟨rfl, rfl, trivial⟩, ?_⟩
      simp only [go_sem, *]
end Go.Abs

namespace Go.Abs
open Go Go.Proofs Tryz
attribute [local irreducible] q9 Hold y2
variable [Cur]
def G9 (s : Int) : Nat → Int
 | 0 => -1
 | c + 1 => if zTE s c = true then (c : Int) else G9 s c
def LeP (s : Int) (n i : Nat) (T : Int) : Prop := G9 s (n - i) = T
theorem LeP.go {s : Int} {n i : Nat} {T : Int} (h : LeP s n i T) (hi : i < n) : (zTE s (n - i - 1) = true → T = ((n - i - 1 : Nat) : Int)) ∧ (zTE s (n - i - 1) = false → LeP s n (i + 1) T) := by
 unfold LeP at *
 have e : n - i = (n - i - 1) + 1 := by omega
 rw [e, G9] at h
 refine ⟨fun q => by rw [if_pos q] at h; exact h.symm, fun q => by rw [if_neg (by simp [q])] at h; rw [← h]; congr 1⟩
theorem LeP.fin {s : Int} {n i : Nat} {T : Int} (h : LeP s n i T) (hi : n ≤ i) : T = -1 := by
 unfold LeP at h
 rw [Nat.sub_eq_zero_of_le hi] at h
 exact h.symm
abbrev W8 (t : Trd) : List Int := zTS t.cls 0 []
def S5 (t : Trd) (a b : Nat) : Int := G9 (zTn ((W8 t).getD a 0) ((W8 t).getD b 0)) t.cls.length
theorem zDC (t : Trd) (v : b8 t = 0) (ha : ∀ h, h ∈ t.hds → h.also.length ≤ 4294967296) (a b : Nat) (h1 : a < t.cls.length) (h2 : b < t.cls.length) : zSx prog 18 [t.enc, iV a, iV b] [] (.tup [iV (S5 t a b), iV 0]) [] := by
 obtain ⟨hc6, hh6⟩ := R3 v
 have sc := zGY t v ha
 have hl := zAr t.cls 0 []
 have hT0 : LeP (zTn ((W8 t).getD a 0) ((W8 t).getD b 0)) t.cls.length 0 (S5 t a b) := rfl
 clear v ha
 generalize S5 t a b = R at *
 obtain ⟨cls, hds⟩ := t
 simp only [Trd.enc, W8] at *
 generalize zTS cls 0 [] = T at *
 have b1 := G8 a 0 (cls.length - 1)
 have b2 := G8 b 0 (cls.length - 1)
 have e1 : btw a 0 (cls.length - 1) = true := by unfold btw; simp; omega
 have e2 : btw b 0 (cls.length - 1) = true := by unfold btw; simp; omega
 rw [e1] at b1
 rw [e2] at b2
 clear e1 e2
 have hwl : IntKind.i64.wrap ((cls.length : Int) - 1) = (cls.length : Int) - 1 := wrap_i64 (by omega) (by omega)
 have hg1 : (T.map u8V).getD a AV.any = u8V (T.getD a 0) := by
  have : a < T.length := by simp at hl; omega
  simp [List.getD, this]
 have hg2 : (T.map u8V).getD b AV.any = u8V (T.getD b 0) := by
  have : b < T.length := by simp at hl; omega
  simp [List.getD, this]
 have hla : a < T.length := by simp at hl; omega
 have hlb : b < T.length := by simp at hl; omega
 generalize T.getD a 0 = x at *
 generalize T.getD b 0 = y at *
 refine z9 func18 rfl (fun E hE => ?_); simp only [go_sem, ntmps18]
 refine we1 (cc sc (cc b1 b2)) ?_
 clear b1 b2 hwl sc hl
 refine y9 rfl (cls.length) (fun i => LeP (zTn x y) cls.length i R) 61 (fun i => [(10, iV (((cls.length - i : Nat) : Int) - 1)), (8, .ptr 0 0), (1, iV a), (2, iV b)]) (fun i => [.box [x8 cls, x9 hds, .own 1 1 0 cls.length, .own 2 1 0 hds.length], .row 1 (T.map u8V), .row 1 (hds.map l6)]) [some 1, some 2, some 3] [] (by exact hT0) ?_; intro i hi hP
 clear hT0
 rcases Nat.lt_or_ge i cls.length with hi2 | hi2
 ·obtain ⟨g1, g2⟩ := hP.go hi2
  obtain ⟨m, hm⟩ : ∃ m : Nat, m = cls.length - i - 1 := ⟨_, rfl⟩
  rw [← hm] at g1 g2
  have em : ((cls.length - i : Nat) : Int) - 1 = (m : Int) := by omega
  have en : IntKind.i64.wrap ((m : Int) - 1) = ((cls.length - (i + 1) : Nat) : Int) - 1 := by rw [wrap_i64 (by omega) (by omega)]; omega
  have sh := zGP (zTn x y) m
  clear hP hm
  generalize zTE (zTn x y) m = bb at *
  repeat' (first | (refine Qr rfl ?_; try intro _ hK; try simp only [go_sem, *]) | refine Qh rfl ?_ | refine Qd rfl (by kernel_rfl) ?_ | (refine Qc rfl rfl ?_ ?_ <;> (intro hb; have hc := hb; try simp only [go_sem] at hc)) | refine z8 rfl ?_ | (with_reducible (show (∀ _ : AV, _ → _) ∧ _); refine wel ?_) | (refine Qb ?_ ?_; focus kernel_rfl) | (refine y5 (sh) ?_; simp only [go_sem, *]) | ((with_reducible apply And.intro); focus omega) | (refine z7 hK ?_; clear hK; simp only [go_sem, *]) | simp only [z6, z5, go_sem, *])
  all_goals first | contradiction | omega | skip
  ·have hR := g1 (by assumption)
   subst hR
   (refine ⟨[_, _], [], [], ⟨rfl, rfl, trivial⟩, ?_⟩; simp only [go_sem, *])
  ·have hn := g2 (by assumption)
   clear g1 g2 sh
   exact y3 (i' := i + 1) [some 0, some 1, some 2] [] (by exact hn)
 ·have hR := hP.fin hi2
  have em : ((cls.length - i : Nat) : Int) - 1 = -1 := by omega
  subst hR
  clear hP
  refine we1 trivial ?_
  (refine ⟨[_, _], [], [], ⟨rfl, rfl, trivial⟩, ?_⟩; simp only [go_sem, *])
end Go.Abs

namespace Go.Abs
open Go Go.Proofs Tryz
attribute [local irreducible] q9 Hold y2
variable [Cur]
def O1 (p : Hd → Bool) : List Hd → Nat → List Int
 | [], _ => []
 | h :: r, i => (if p h = true then [(i : Int)] else []) ++ O1 p r (i + 1)
def zTl (A : List Int) (c : Nat) (h : Hd) : Bool := decide (h.see = -1) && !decide (h.cls = -1) && zTE (A.getD h.cls.toNat 0) c
def Y8 (t : Trd) (c : Nat) : List Int := O1 (zTl (W8 t) c) t.hds 0
def UnP (p : Hd → Bool) (hds : List Hd) (i : Nat) (B T : List Int) : Prop := B ++ O1 p (hds.drop i) i = T ∧ B.length ≤ i
theorem UnP.go {p : Hd → Bool} {hds : List Hd} {i : Nat} {B T : List Int} (h : UnP p hds i B T) (hi : i < hds.length) : (p (hds.getD i default) = true → UnP p hds (i + 1) (B ++ [(i : Int)]) T) ∧ (p (hds.getD i default) = false → UnP p hds (i + 1) B T) := by
 unfold UnP at *
 obtain ⟨h, hb⟩ := h
 rw [u4 hi, O1] at h
 exact ⟨fun q => by rw [if_pos q] at h; exact ⟨by rw [← h]; simp, by simp; omega⟩, fun q => by rw [if_neg (by rw [q]; decide)] at h; exact ⟨by rw [← h]; simp, by omega⟩⟩
theorem UnP.fin {p : Hd → Bool} {hds : List Hd} {i : Nat} {B T : List Int} (h : UnP p hds i B T) (hi : hds.length ≤ i) : B = T := by
 have h := h.1
 rw [l5 hi, O1] at h
 simpa using h
omit [Cur] in
theorem zCW {t : Trd} (v : b8 t = 0) {k : Nat} (hk : k < t.hds.length) : -1 ≤ (t.hds.getD k default).cls ∧ (t.hds.getD k default).cls < t.cls.length := by
 unfold b8 at v
 split at v
 ·simp at v
 split at v
 ·exact absurd v (by assumption)
 have := zA5 v k (Nat.zero_le _) (by omega)
 unfold U3 at this
 simp only at this
 split at this
 ·simp at this
 split at this
 ·simp at this
 split at this
 ·simp at this
 split at this
 ·simp at this
 rename_i q
 simp only [not_or, Bool.not_eq_false] at q
 have q1 := q.1
 unfold btw at q1
 simp only [Bool.and_eq_true, decide_eq_true_eq] at q1
 omega
theorem zOZ (t : Trd) (v : b8 t = 0) (ha : ∀ h, h ∈ t.hds → h.also.length ≤ 4294967296) (c : Nat) (h1 : c < t.cls.length) :
  zSx prog 52 [t.enc, iV c] [] (.tup [.own 0 1 0 (Y8 t c).length, iV 0]) [.row 1 ((Y8 t c).map iV)] := by
 obtain ⟨hc6, hh6⟩ := R3 v
 have sc := zGY t v ha
 have hcl := fun k => zCW (k := k) v
 have hl := zAr t.cls 0 []
 have hT0 : UnP (zTl (W8 t) c) t.hds 0 [] (Y8 t c) := ⟨rfl, Nat.le_refl _⟩
 clear v ha
 generalize Y8 t c = R at *
 obtain ⟨cls, hds⟩ := t
 simp only [Trd.enc, W8] at *
 generalize zTS cls 0 [] = T at *
 have b1 := G8 c 0 (cls.length - 1)
 have e1 : btw c 0 (cls.length - 1) = true := by unfold btw; simp; omega
 rw [e1] at b1
 clear e1
 have hwl : IntKind.i64.wrap ((cls.length : Int) - 1) = (cls.length : Int) - 1 := wrap_i64 (by omega) (by omega)
 have hT : T.length = cls.length := by simpa using hl
 clear hl
 refine z9 func52 rfl (fun E hE => ?_); simp only [go_sem, ntmps52]
 refine we1 (cc sc b1) ?_
 clear b1 hwl sc
 refine Q7 rfl (hds.length) (fun i (B : List Int) => UnP (zTl T c) hds i B R) 64 (fun i B => [(35, iV i), (34, iV hds.length), (33, .own 2 1 0 hds.length), (6, .ptr 0 0), (1, iV c), (8, .own 3 1 0 B.length)]) (fun i B => [.box [x8 cls, x9 hds, .own 1 1 0 cls.length, .own 2 1 0 hds.length], .row 1 (T.map u8V), .row 1 (hds.map l6), .row 1 (B.map iV)]) [some 1, some 2, some 3, none] [] (([] : List Int)) (by exact hT0) ?_; intro i B hi hP
 clear hT0
 rcases Nat.lt_or_ge i hds.length with hi2 | hi2
 ·obtain ⟨g1, g2⟩ := hP.go hi2
  have hBi : B.length ≤ i := hP.2
  have hci := hcl i hi2
  have hd1 : decide ((i : Int) < (hds.length : Int)) = true := by simp; omega
  have hd2 : decide (i < hds.length) = true := by simp; omega
  have hgk : (hds.map l6).getD i AV.any = l6 (hds.getD i default) := by simp [List.getD, hi2]
  clear hP hcl
  generalize hds.getD i default = x at *
  obtain ⟨w, cl, s, a⟩ := x
  simp only at hci
  by_cases q1 : s = -1
  ·by_cases q2 : cl = -1
   ·have hk : l6 ⟨w, cl, s, a⟩ = .ifc 198 (.agg [.list (a.map iV)]) := by unfold l6; rw [if_neg (by simp [q1]), if_neg (by simp [q2])]
    rw [hk] at hgk
    have hn := g2 (by unfold zTl; simp [q2])
    clear hk g1 g2 q1 q2
    refine we1 trivial ?_
    clear hgk hd1 hd2
    exact t7 (i' := i + 1) [some 0, some 1, some 2, some 3] [] (B) (by exact hn)
   ·have hk : l6 ⟨w, cl, s, a⟩ = .ifc 182 (.agg [iV cl, .list (a.map iV)]) := by unfold l6; rw [if_neg (by simp [q1]), if_pos q2]
    rw [hk] at hgk
    have hub : zTl T c ⟨w, cl, s, a⟩ = zTE (T.getD cl.toNat 0) c := by unfold zTl; simp [q1, q2]
    have hcT : cl.toNat < T.length := by omega
    have hc0 : 0 ≤ cl := by omega
    have hcT2 : cl < T.length := by omega
    have hgT : (T.map u8V).getD cl.toNat AV.any = u8V (T.getD cl.toNat 0) := by simp [List.getD, hcT]
    have sh := zGP (T.getD cl.toNat 0) c
    rw [← hub] at sh
    generalize zTl T c ⟨w, cl, s, a⟩ = bb at *
    clear hk hub q1 q2
    repeat' (first | (refine Qr rfl ?_; try intro _ hK; try simp only [go_sem, *]) | (refine Qi rfl rfl rfl rfl ?_ ?_ <;> (intro hb; (try intro _ hK); have hc := hb; try simp only [go_sem] at hc; simp only [go_sem, *])) | refine Qh rfl ?_ | refine Qd rfl (by kernel_rfl) ?_ | (refine Qc rfl rfl ?_ ?_ <;> (intro hb; have hc := hb; try simp only [go_sem] at hc)) | refine z8 rfl ?_ | (with_reducible (show (∀ _ : AV, _ → _) ∧ _); refine wel ?_) | (refine Qb ?_ ?_; focus kernel_rfl) | (refine y5 (sh) ?_; simp only [go_sem, *]) | ((with_reducible apply And.intro); focus omega) | (refine z7 hK ?_; clear hK; simp only [go_sem, *]) | simp only [z6, z5, go_sem, *])
    ·have hn := g1 (by assumption)
     clear hgk hd1 hd2 g1 g2 sh hgT
     exact t7 (i' := i + 1) [some 0, some 1, some 2, some 6] [] (B ++ [(i : Int)]) (by exact hn)
    ·have hn := g2 (by assumption)
     clear hgk hd1 hd2 g1 g2 sh hgT
     exact t7 (i' := i + 1) [some 0, some 1, some 2, some 3] [] (B) (by exact hn)
  ·have hk : l6 ⟨w, cl, s, a⟩ = .raw (.iface 196 (.agg #[.int .i64 s])) := by unfold l6; rw [if_pos q1]
   rw [hk] at hgk
   have hn := g2 (by unfold zTl; simp [q1])
   clear hk g1 g2 q1
   refine we1 trivial ?_
   clear hgk hd1 hd2
   exact t7 (i' := i + 1) [some 0, some 1, some 2, some 3] [] (B) (by exact hn)
 ·have hR := hP.fin hi2
  have hd1 : decide ((i : Int) < (hds.length : Int)) = false := by simp; omega
  have hd2 : decide (i < hds.length) = false := by simp; omega
  subst hR
  clear hP
  refine we1 trivial ?_
  refine ⟨[_, _], [some 3], [], ⟨rfl, rfl, trivial⟩, ?_⟩
  simp only [go_sem, *]
end Go.Abs

namespace Go.Abs
open Go Go.Proofs Tryz
attribute [local irreducible] q9 Hold y2
variable [Cur]
def K6 (v : Vol) (p : Per) : Int :=
 if s9 p.name ≠ 0 then s9 p.name else if btw p.street 0 (v.streets - 1) = false then 3 else if btw p.number 1 40 = false then 1 else if btw p.head (-1) (v.tr.hds.length - 1) = false then 3
 else if 0 ≤ p.head ∧ (v.tr.hds.getD p.head.toNat default).cls = -1 then 8 else 0
theorem zOJ (v : Vol) (p : Per) (hs : 1 ≤ v.streets ∧ v.streets ≤ 3) (hh : v.tr.hds.length ≤ 1000) : zSx prog 91 [v.enc, p.enc] [] (iV (K6 v p)) [] := by
 have sc := zC9 p.name
 have s1 := B6 p.street 0 (v.streets - 1)
 have s2 := B6 p.number 1 40
 have s3 := B6 p.head (-1) (v.tr.hds.length - 1)
 obtain ⟨R, hR⟩ : ∃ r, r = K6 v p := ⟨_, rfl⟩
 rw [← hR]
 unfold K6 at hR
 obtain ⟨st, wd, rw1, ⟨cls, hds⟩, rules, people⟩ := v
 obtain ⟨nm, ps, pn, ph, pb⟩ := p
 simp only [Vol.enc, Per.enc] at *
 have hws : IntKind.i64.wrap (st - 1) = st - 1 := wrap_i64 (by omega) (by omega)
 have hwh : IntKind.i64.wrap ((hds.length : Int) - 1) = (hds.length : Int) - 1 := wrap_i64 (by omega) (by omega)
 have hb3 : btw ph (-1) (hds.length - 1) = true → -1 ≤ ph ∧ ph ≤ hds.length - 1 := fun h => by unfold btw at h; simp at h; omega
 generalize s9 nm = c0 at *
 generalize btw ps 0 (st - 1) = b1 at *
 generalize btw pn 1 40 = b2 at *
 generalize btw ph (-1) (hds.length - 1) = b3 at *
 have e0 : ¬ c0 = 0 → R = c0 := fun h => by rw [hR, if_pos h]
 have e1 : c0 = 0 → b1 = false → R = 3 := fun h h1 => by rw [hR, if_neg (by simp [h]), if_pos h1]
 have e2 : c0 = 0 → b1 = true → b2 = false → R = 1 := fun h h1 h2 => by rw [hR, if_neg (by simp [h]), if_neg (by simp [h1]), if_pos h2]
 have e3 : c0 = 0 → b1 = true → b2 = true → b3 = false → R = 3 := fun h h1 h2 h3 => by rw [hR, if_neg (by simp [h]), if_neg (by simp [h1]), if_neg (by simp [h2]), if_pos h3]
 have e4 : c0 = 0 → b1 = true → b2 = true → b3 = true → R = if 0 ≤ ph ∧ (hds.getD ph.toNat default).cls = -1 then 8 else 0 := fun h h1 h2 h3 => by rw [hR, if_neg (by simp [h]), if_neg (by simp [h1]), if_neg (by simp [h2]), if_neg (by simp [h3])]
 clear hR
 by_cases hp : 0 ≤ ph
 ·have hd1 : decide (ph ≥ 0) = true := by simp; omega
  have hd2 : decide (0 ≤ ph) = true := by simp; omega
  by_cases hbt : b3 = true
  ·have hq := hb3 hbt
   have hq1 : ph.toNat < hds.length := by omega
   have hq2 : ph < hds.length := by omega
   have e5 : c0 = 0 → b1 = true → b2 = true → (hds.getD ph.toNat default).cls = -1 → R = 8 := fun h h1 h2 h3 => by rw [e4 h h1 h2 hbt, if_pos ⟨hp, h3⟩]
   have e6 : c0 = 0 → b1 = true → b2 = true → ¬ (hds.getD ph.toNat default).cls = -1 → R = 0 := fun h h1 h2 h3 => by rw [e4 h h1 h2 hbt, if_neg (fun q => h3 q.2)]
   clear e3 e4 hb3
   subst hbt
   refine z9 func91 rfl (fun E hE => ?_); simp only [go_sem, ntmps91]
   repeat' (first | (refine Qr rfl ?_; try intro _ hK; try simp only [go_sem, *]) | (refine Qi rfl rfl rfl rfl ?_ ?_ <;> (intro hb; (try intro _ hK); have hc := hb; try simp only [go_sem] at hc; simp only [go_sem, *])) | refine Qh rfl ?_ | (refine Qc rfl rfl ?_ ?_ <;> (intro hb; have hc := hb; try simp only [go_sem] at hc)) | refine z8 rfl ?_ | (with_reducible (show (∀ _ : AV, _ → _) ∧ _); refine wel ?_) | (refine y5 (sc) ?_; simp only [go_sem, *]) | (refine r7 (s1) ?_ ?_; (focus (simp only [go_sem, *]; done)); simp only [go_sem, *]) | (refine r7 (s2) ?_ ?_; (focus (simp only [go_sem, *]; done)); simp only [go_sem, *]) | (refine r7 (s3) ?_ ?_; (focus (simp only [go_sem, *]; done)); simp only [go_sem, *]) | ((with_reducible apply And.intro); focus omega) | (refine z7 hK ?_; clear hK; simp only [go_sem, *]) | simp only [z6, z5, go_sem, *])
   all_goals try (focus ((refine ⟨[_], [], [], ⟨rfl, trivial⟩, ?_⟩; simp only [go_sem, *]); done))
  ·have hbf : b3 = false := by simpa using hbt
   clear e4 hb3 hbt
   subst hbf
   refine z9 func91 rfl (fun E hE => ?_); simp only [go_sem, ntmps91]
   repeat' (first | (refine Qr rfl ?_; try intro _ hK; try simp only [go_sem, *]) | (refine Qi rfl rfl rfl rfl ?_ ?_ <;> (intro hb; (try intro _ hK); have hc := hb; try simp only [go_sem] at hc; simp only [go_sem, *])) | refine Qh rfl ?_ | (refine Qc rfl rfl ?_ ?_ <;> (intro hb; have hc := hb; try simp only [go_sem] at hc)) | refine z8 rfl ?_ | (with_reducible (show (∀ _ : AV, _ → _) ∧ _); refine wel ?_) | (refine y5 (sc) ?_; simp only [go_sem, *]) | (refine r7 (s1) ?_ ?_; (focus (simp only [go_sem, *]; done)); simp only [go_sem, *]) | (refine r7 (s2) ?_ ?_; (focus (simp only [go_sem, *]; done)); simp only [go_sem, *]) | (refine r7 (s3) ?_ ?_; (focus (simp only [go_sem, *]; done)); simp only [go_sem, *]) | ((with_reducible apply And.intro); focus omega) | (refine z7 hK ?_; clear hK; simp only [go_sem, *]) | simp only [z6, z5, go_sem, *])
   all_goals try (focus ((refine ⟨[_], [], [], ⟨rfl, trivial⟩, ?_⟩; simp only [go_sem, *]); done))
 ·have hd1 : decide (ph ≥ 0) = false := by simp; omega
  have hd2 : decide (0 ≤ ph) = false := by simp; omega
  have e5 : c0 = 0 → b1 = true → b2 = true → b3 = true → R = 0 := fun h h1 h2 h3 => by rw [e4 h h1 h2 h3, if_neg (fun q => hp q.1)]
  clear e4 hb3
  refine z9 func91 rfl (fun E hE => ?_); simp only [go_sem, ntmps91]
  repeat' (first | (refine Qr rfl ?_; try intro _ hK; try simp only [go_sem, *]) | (refine Qi rfl rfl rfl rfl ?_ ?_ <;> (intro hb; (try intro _ hK); have hc := hb; try simp only [go_sem] at hc; simp only [go_sem, *])) | refine Qh rfl ?_ | (refine Qc rfl rfl ?_ ?_ <;> (intro hb; have hc := hb; try simp only [go_sem] at hc)) | refine z8 rfl ?_ | (with_reducible (show (∀ _ : AV, _ → _) ∧ _); refine wel ?_) | (refine y5 (sc) ?_; simp only [go_sem, *]) | (refine r7 (s1) ?_ ?_; (focus (simp only [go_sem, *]; done)); simp only [go_sem, *]) | (refine r7 (s2) ?_ ?_; (focus (simp only [go_sem, *]; done)); simp only [go_sem, *]) | (refine r7 (s3) ?_ ?_; (focus (simp only [go_sem, *]; done)); simp only [go_sem, *]) | ((with_reducible apply And.intro); focus omega) | (refine z7 hK ?_; clear hK; simp only [go_sem, *]) | simp only [z6, z5, go_sem, *])
  all_goals try (focus ((refine ⟨[_], [], [], ⟨rfl, trivial⟩, ?_⟩; simp only [go_sem, *]); done))
end Go.Abs

namespace Go.Abs
open Go Go.Proofs Tryz
attribute [local irreducible] q9 Hold y2
variable [Cur]
structure VolOK (v : Vol) : Prop where
 st : 1 ≤ v.streets ∧ v.streets ≤ 3
 wd : 1 ≤ v.width ∧ v.width ≤ 13
 rw : 3 ≤ v.rows ∧ v.rows ≤ 8
 tr : b8 v.tr = 0
 also : ∀ h, h ∈ v.tr.hds → h.also.length ≤ 4294967296
 rl : v.rules.length ≤ 4294967296
 rs : ∀ x, x ∈ v.rules → x.src.length ≤ 4294967296 ∧ x.dst.length ≤ 4294967296
 ve : F0 v.rules [97] [97] = 0
 pl : v.people.length ≤ 6
 pe : ∀ p, p ∈ v.people → K6 v p = 0
theorem zGX (t : Trd) (v : b8 t = 0) (ha : ∀ h, h ∈ t.hds → h.also.length ≤ 4294967296) : zSx prog 89 [t.enc] [] (iV 0) [] := by
 have sc := zGZ t (by have := R3 v; omega) (by have := R3 v; omega) ha
 rw [v] at sc
 obtain ⟨cls, hds⟩ := t
 clear v ha
 refine z9 func89 rfl (fun E hE => ?_); simp only [go_sem, ntmps89]
 refine wk1 sc ?_
 all_goals (refine ⟨[_], [], [], ⟨rfl, trivial⟩, ?_⟩; simp only [go_sem, *])
theorem zOI (v : Vol) (ok : VolOK v) : zSx prog 51 [v.enc] [] (.tup [.ptr 0 0, iV 0])
  [.box [iV v.streets, iV v.width, iV v.rows, x8 v.tr.cls, x9 v.tr.hds, x5 v.rules, y8 v.people, .own 1 1 0 v.people.length], .row 1 (v.people.map fun p => sV p.name)] := by
 have s1 := B6 v.streets 1 3
 have s2 := B6 v.width 1 13
 have s3 := B6 v.rows 3 8
 have b1 : btw v.streets 1 3 = true := by have := ok.st; unfold btw; simp; omega
 have b2 : btw v.width 1 13 = true := by have := ok.wd; unfold btw; simp; omega
 have b3 : btw v.rows 3 8 = true := by have := ok.rw; unfold btw; simp; omega
 rw [b1] at s1
 rw [b2] at s2
 rw [b3] at s3
 clear b1 b2 b3
 have sc := zGX v.tr ok.tr ok.also
 have sv := zDD v.rules [97] [97] ok.rl ok.rs
 rw [ok.ve] at sv
 have sp : ∀ p, p ∈ v.people → zSx prog 91 [v.enc, p.enc] [] (iV 0) [] := fun p hp => by
  have := zOJ v p ok.st (by have := R3 ok.tr; omega)
  rw [ok.pe p hp] at this
  exact this
 have hp6 := ok.pl
 clear ok
 generalize B8 v.rules [97] [97] = vv at *
 obtain ⟨st, wd, rw1, ⟨cls, hds⟩, rules, people⟩ := v
 simp only [Vol.enc, Trd.enc] at *
 have hpq : decide ((people.length : Int) > 6) = false := by simp; omega
 have hpr : decide (6 < people.length) = false := by simp; omega
 refine z9 func51 rfl (fun E hE => ?_); simp only [go_sem, ntmps51]
 refine we1 (cc s1 (cc s2 (cc s3 (cc sc sv)))) ?_
 clear s1 s2 s3 sc sv hpq hpr
 refine y9 rfl (people.length) (fun i => NoS i) 75 (fun i => [(52, iV i), (51, iV people.length), (50, y8 people), (1, .ptr 0 0), (7, .ptr 1 0)]) (fun i => [.box [iV st, iV wd, iV rw1, x8 cls, x9 hds, x5 rules, y8 people], .box [iV st, iV wd, iV rw1, x8 cls, x9 hds, x5 rules, y8 people, .own 2 1 0 i], .row 1 ((people.take i).map fun p => sV p.name)]) [some 0, some 1, none] [] (by trivial) ?_; intro i hi hP
 rcases Nat.lt_or_ge i people.length with hi2 | hi2
 ·have sk := sp _ (j9 hi2)
  have hd1 : decide ((i : Int) < (people.length : Int)) = true := by simp; omega
  have hd2 : decide (i < people.length) = true := by simp; omega
  have hnx : (people.take (i + 1)).map (fun p => sV p.name) = (people.take i).map (fun p => sV p.name) ++ [sV (people.getD i default).name] := by
   rw [List.take_succ_eq_append_getElem hi2, List.map_append]
   simp [List.getD, hi2]
  clear sp
  refine we1 sk ?_
  clear hd1 hd2 sk
  exact y3 (i' := i + 1) [some 0, some 1, some 5] [] (by trivial)
 ·have he : i = people.length := by omega
  subst he
  have hd1 : decide ((people.length : Int) < (people.length : Int)) = false := by simp
  have hd2 : decide (people.length < people.length) = false := by simp
  simp only [List.take_length]
  clear sp
  refine we1 trivial ?_
  refine ⟨[_, _], [some 1, some 2], [], ⟨rfl, rfl, trivial⟩, ?_⟩
  simp only [go_sem, *]
end Go.Abs

namespace Go.Abs
open Go Go.Proofs Tryz
attribute [local irreducible] q9 Hold y2
variable [Cur]
theorem zND (x : Int) (l : List Int) (hl : l.length ≤ 1000) : zSx prog 114 [.list (l.map iV), iV x] [] (iV (zS8 (fun y => x == y) l 0)) [] := by
 have h0 : zS8 (fun y => x == y) (l.drop 0) 0 = zS8 (fun y => x == y) l 0 := rfl
 generalize zS8 (fun y => x == y) l 0 = T at *
 refine z9 func114 rfl (fun E hE => ?_); simp only [go_sem, ntmps114]
 refine wk1 trivial ?_
 refine y9 rfl (l.length) (fun i => zS8 (fun y => x == y) (l.drop i) i = T) 19 (fun i => [(8, iV i), (7, iV l.length), (0, .list (l.map iV)), (1, iV x)]) (fun i => []) [] [] (by exact h0) ?_; intro i hi hP
 clear h0
 rcases Nat.lt_or_ge i l.length with hi2 | hi2
 ·rw [u4 hi2, zS8] at hP
  have g1 : (x == l.getD i default) = true → T = i := fun h => by rw [if_pos h] at hP; exact hP.symm
  have g2 : (x == l.getD i default) = false → zS8 (fun y => x == y) (l.drop (i + 1)) (i + 1) = T := fun h => by rw [if_neg (by rw [h]; decide)] at hP; exact hP
  have hd1 : decide ((i : Int) < (l.length : Int)) = true := by simp; omega
  have hd2 : decide (i < l.length) = true := by simp; omega
  clear hP
  repeat' (first | (refine Qr rfl ?_; try intro _ hK; try simp only [go_sem, *]) | refine Qh rfl ?_ | (refine Qc rfl rfl ?_ ?_ <;> (intro hb; have hc := hb; try simp only [go_sem] at hc)) | refine z8 rfl ?_ | ((with_reducible apply And.intro); focus omega) | (refine z7 hK ?_; clear hK; simp only [go_sem, *]) | simp only [z6, z5, go_sem, *])
  ·have hT := g1 (by assumption)
   subst hT
   clear g1 g2
   (refine ⟨[_], [], [], ⟨rfl, trivial⟩, ?_⟩; simp only [go_sem, *])
  ·have hn := g2 (by assumption)
   clear g1 g2 hd1 hd2
   exact y3 (i' := i + 1) [] [] (by exact hn)
 ·rw [l5 hi2, zS8] at hP
  have hd1 : decide ((i : Int) < (l.length : Int)) = false := by simp; omega
  have hd2 : decide (i < l.length) = false := by simp; omega
  subst hP
  refine wk1 trivial ?_
  (refine ⟨[_], [], [], ⟨rfl, trivial⟩, ?_⟩; simp only [go_sem, *])
theorem zM3 (x : Int) (l : List Int) (hl : l.length ≤ 1000) : zSx prog 92 [.list (l.map iV), iV x] [] (bV (l.any (fun y => x == y))) [] := by
 have si := zND x l hl
 rw [← zBA (fun y => x == y) l 0]
 generalize zS8 (fun y => x == y) l 0 = n at *
 refine z9 func92 rfl (fun E hE => ?_); simp only [go_sem, ntmps92]
 refine wk1 si ?_
 (refine ⟨[_], [], [], ⟨rfl, trivial⟩, ?_⟩; simp only [go_sem, *])
def ofV (l : List Per) (tr : List Int) : List Nat := (Q2 a5 zTA l).filter fun n => tr.any fun y => (l.getD n default).head == y
def OfP (l : List Per) (tr : List Int) (S : List Nat) (i : Nat) (B T : List Nat) : Prop := B ++ (S.drop i).filter (fun n => tr.any fun y => (l.getD n default).head == y) = T ∧ B.length ≤ i
theorem OfP.go {l : List Per} {tr : List Int} {S : List Nat} {i : Nat} {B T : List Nat} (h : OfP l tr S i B T) (hi : i < S.length) : ((tr.any fun y => (l.getD (S.getD i default) default).head == y) = true → OfP l tr S (i + 1) (B ++ [S.getD i default]) T) ∧
  ((tr.any fun y => (l.getD (S.getD i default) default).head == y) = false → OfP l tr S (i + 1) B T) := by
 obtain ⟨h1, h2⟩ := h
 rw [u4 hi, List.filter_cons] at h1
 exact ⟨fun q => by rw [if_pos (by exact q)] at h1; exact ⟨by rw [← h1]; simp, by simp; omega⟩, fun q => by rw [if_neg (by rw [Bool.not_eq_true]; exact q)] at h1; exact ⟨h1, by omega⟩⟩
theorem OfP.fin {l : List Per} {tr : List Int} {S : List Nat} {i : Nat} {B T : List Nat} (h : OfP l tr S i B T) (hi : S.length ≤ i) : B = T := by
 have := h.1
 rw [l5 hi] at this
 simpa using this
theorem zMk {cf : Per → Per → Int} {st : Per → Bool} {l : List Per} {n : Nat} (h : n ∈ Q2 cf st l) : n < l.length := by
 unfold Q2 at h
 have h2 := (L5 _ _).mem_iff.1 h
 exact List.mem_range.1 (List.mem_filter.1 h2).1
theorem zOg (a b c : Int) (C D E0 : List AV) (l : List Per) (h12 : l.length ≤ 6) (tr : List Int) (htr : tr.length ≤ 1000) (nm : List AV) (n : Nat) :
  zSx prog 53 [.ptr 0 0, .list (tr.map iV)] [.box [iV a, iV b, iV c, .list C, .list D, .list E0, y8 l, .own 1 1 0 n], .row 1 nm] (.own 2 1 0 (ofV l tr).length)
   [.dead, .dead, .row 1 ((ofV l tr).map pnV)] := by
 have ss := zOU l (by omega)
 have hlt : ∀ k, k < (Q2 a5 zTA l).length → (Q2 a5 zTA l).getD k default < l.length := fun k hk => zMk (j9 hk)
 have hT0 : OfP l tr (Q2 a5 zTA l) 0 [] (ofV l tr) := ⟨rfl, Nat.le_refl _⟩
 have hsl : (Q2 a5 zTA l).length ≤ l.length := by
  unfold Q2
  rw [H7]
  have := List.length_filter_le (fun i => zTA (l.getD i default)) (List.range l.length)
  simpa using this
 generalize ofV l tr = R at *
 generalize Q2 a5 zTA l = S at *
 have sc := fun x => zM3 x tr htr
 refine z9 func53 rfl (fun E hE => ?_); simp only [go_sem, ntmps53]
 refine we1 ss ?_
 clear ss
 refine Q7 rfl (S.length) (fun i (B : List Nat) => OfP l tr S i B R) 38 (fun i B => [(17, iV i), (16, iV S.length), (15, .own 2 1 0 S.length), (0, .ptr 0 0), (1, .list (tr.map iV)), (5, .own 3 1 0 B.length)]) (fun i B => [.box [iV a, iV b, iV c, .list C, .list D, .list E0, y8 l, .own 1 1 0 n], .row 1 nm, .row 1 (S.map pnV), .row 1 (B.map pnV)]) [some 0, some 1, some 2, none] [] (([] : List Nat)) (by exact hT0) ?_; intro i B hi hP
 clear hT0
 rcases Nat.lt_or_ge i S.length with hi2 | hi2
 ·obtain ⟨g1, g2⟩ := hP.go hi2
  have hBi : B.length ≤ i := hP.2
  have hk := hlt i hi2
  have hd1 : decide ((i : Int) < (S.length : Int)) = true := by simp; omega
  have hd2 : decide (i < S.length) = true := by simp; omega
  have hgS : (S.map pnV).getD i AV.any = iV (S.getD i default) := by simp [List.getD, hi2]
  have sk := sc (l.getD (S.getD i default) default).head
  clear hP hlt sc
  generalize S.getD i default = m at *
  generalize (tr.any fun y => (l.getD m default).head == y) = bb at *
  repeat' (first | (refine Qr rfl ?_; try intro _ hK; try simp only [go_sem, *]) | refine Qh rfl ?_ | (refine Qc rfl rfl ?_ ?_ <;> (intro hb; have hc := hb; try simp only [go_sem] at hc)) | refine z8 rfl ?_ | (with_reducible (show (∀ _ : AV, _ → _) ∧ _); refine wel ?_) | (refine y5 (sk) ?_; simp only [go_sem, *]) | ((with_reducible apply And.intro); focus omega) | (refine z7 hK ?_; clear hK; simp only [go_sem, *]) | simp only [z6, z5, go_sem, *])
  ·have hn := g1 (by assumption)
   clear g1 g2 hd1 hd2 hgS sk
   exact t7 (i' := i + 1) [some 0, some 1, some 2, some 5] [] (B ++ [m]) (by exact hn)
  ·have hn := g2 (by assumption)
   clear g1 g2 hd1 hd2 hgS sk
   exact t7 (i' := i + 1) [some 0, some 1, some 2, some 3] [] (B) (by exact hn)
 ·have hR := hP.fin hi2
  have hd1 : decide ((i : Int) < (S.length : Int)) = false := by simp; omega
  have hd2 : decide (i < S.length) = false := by simp; omega
  subst hR
  clear hP hlt sc
  refine we1 trivial ?_
  refine ⟨[_], [some 0, some 1, some 3], [], ⟨rfl, trivial⟩, ?_⟩
  simp only [go_sem, *]
theorem zG1 (p : Hd → Bool) : ∀ (l : List Hd) (i : Nat), (O1 p l i).length ≤ l.length
 | [], _ => Nat.le_refl _
 | h :: r, i => by
  rw [O1, List.length_append, List.length_cons]
  have := zG1 p r (i + 1)
  split
  ·simp; omega
  ·simp; omega
theorem zGU (v : Vol) (ok : VolOK v) (c : Nat) (h1 : c < v.tr.cls.length) : zSx prog 15 [v.enc, iV c] [] (.tup [.own 0 1 0 (ofV v.people (Y8 v.tr c)).length, iV 0]) [.row 1 ((ofV v.people (Y8 v.tr c)).map pnV)] := by
 have sb := zOI v ok
 have su := zOZ v.tr ok.tr ok.also c h1
 have hul : (Y8 v.tr c).length ≤ 1000 := by have := zG1 (zTl (W8 v.tr) c) v.tr.hds 0; have := R3 ok.tr; unfold Y8; omega
 have sv := zOg v.streets v.width v.rows (v.tr.cls.map Cl.enc) (v.tr.hds.map Hd.enc) (v.rules.map Rule.enc) v.people ok.pl (Y8 v.tr c) hul (v.people.map fun p => sV p.name) v.people.length
 clear ok
 generalize Y8 v.tr c = U at *
 generalize ofV v.people U = R at *
 obtain ⟨st, wd, rw1, ⟨cls, hds⟩, rules, people⟩ := v
 simp only [Vol.enc, Trd.enc] at *
 refine z9 func15 rfl (fun E hE => ?_); simp only [go_sem, ntmps15]
 repeat' (first | (refine Qr rfl ?_; try intro _ hK; try simp only [go_sem, *]) | refine Qh rfl ?_ | (refine Qc rfl rfl ?_ ?_ <;> (intro hb; have hc := hb; try simp only [go_sem] at hc)) | refine z8 rfl ?_ | (with_reducible (show (∀ _ : AV, _ → _) ∧ _); refine wel ?_) | (refine v9 (sb) ?_; simp only [go_sem, *]) | (refine v9 (su) ?_; simp only [go_sem, *]) | ((with_reducible apply And.intro); focus omega) | (refine z7 hK ?_; clear hK; simp only [go_sem, *]) | simp only [z6, z5, go_sem, *])
 refine R8 (as' := [.ptr 1 0, .list (U.map iV)]) [1, 2] [3] sv ?_ ?_ (by simp) ?_ ?_ ?_ ?_ ?_
 ·simp only [go_sem, *]
 ·simp only [go_sem, *]
 ·simp only [go_sem, *]
 ·simp only [go_sem, *]
 ·first | (simp; done) | (simp [go_sem]; done) | (simp [go_sem]; intros; omega)
 ·first | (simp; done) | (simp [go_sem]; done)
 ·simp only [go_sem, w4, *]
  refine z7 hK ?_; clear hK; simp only [go_sem, *]
  refine we1 trivial ?_
  refine ⟨[_, _], [some 4], [], ⟨rfl, rfl, trivial⟩, ?_⟩
  simp only [go_sem, *]
end Go.Abs

namespace Go.Abs
open Go Go.Proofs Tryz
attribute [local irreducible] q9 Hold y2
variable [Cur]
theorem zAa (n lo hi : Int) : zSx prog 94 [iV n, iV lo, iV hi] [] (bV (btw n lo hi)) [] := by
 refine z9 func94 rfl (fun E hE => ?_); simp only [go_sem, ntmps94]
 repeat' (first | (refine Qr rfl ?_; try intro _ hK; try simp only [go_sem, *]) | (refine Qi rfl rfl rfl rfl ?_ ?_ <;> (intro hb; (try intro _ hK); have hc := hb; try simp only [go_sem] at hc; simp only [go_sem, *])) | refine Qh rfl ?_ | (refine Qc rfl rfl ?_ ?_ <;> (intro hb; have hc := hb; try simp only [go_sem] at hc)) | refine z8 rfl ?_ | ((with_reducible apply And.intro); focus omega) | (refine z7 hK ?_; clear hK; simp only [go_sem, *]) | simp only [z6, z5, go_sem, *])
 all_goals (refine ⟨[_], [], [], ⟨rfl, trivial⟩, ?_⟩; simp only [go_sem, *])
 all_goals (unfold btw; simp_all)
 all_goals omega
theorem zDE (p : Per) : zSx prog 118 [p.enc] [] (.agg [iV p.street, iV p.number, iV 0]) [] := by
 refine z9 func118 rfl (fun E hE => ?_); simp only [go_sem, ntmps118]
 refine wk1 trivial ?_
 refine ⟨[.agg [iV p.street, iV p.number, iV 0]], [], [], ⟨(by simp only [Z2, go_sem]), trivial⟩, ?_⟩; simp only [go_sem, *]
theorem zBg : zSx prog 119 [iV 0] [] (.tup []) [] := by
 refine z9 func119 rfl (fun E hE => ?_); simp only [go_sem, ntmps119]
 refine wk1 trivial ?_
 refine ⟨[], [], [], trivial, ?_⟩
 simp only [go_sem, *]
end Go.Abs

namespace Go.Abs
open Go
theorem zLj : ((List.range 64).all fun a => (List.range 64).all fun b => decide (0 ≤ or8 a b) && decide (or8 a b < 64) && (List.range 6).all fun c => zTE (or8 a b) c == (zTE a c || zTE b c)) = true := by kernel_rfl
theorem zHb : ((List.range 64).all fun a => (List.range 64).all fun b => (List.range 6).all fun c => zTE (zTn a b) c == (zTE a c && zTE b c)) = true := by kernel_rfl
theorem zPt : ((List.range 6).all fun i => decide (0 ≤ T2 0 i) && decide (T2 0 i < 64)) = true := by kernel_rfl
def Sm (x : Int) : Prop := 0 ≤ x ∧ x < 64
theorem zPu {i : Nat} (h : i < 6) : Sm (T2 0 i) := by
 have := List.all_eq_true.1 zPt i (List.mem_range.2 h)
 simpa [Sm] using this
theorem zLk {x y : Int} (hx : Sm x) (hy : Sm y) : Sm (or8 x y) := by
 obtain ⟨a, rfl⟩ := Int.eq_ofNat_of_zero_le hx.1
 obtain ⟨b, rfl⟩ := Int.eq_ofNat_of_zero_le hy.1
 have h1 := hx.2
 have h2 := hy.2
 have := List.all_eq_true.1 (List.all_eq_true.1 zLj a (List.mem_range.2 (by omega))) b (List.mem_range.2 (by omega))
 simp only [Bool.and_eq_true, decide_eq_true_eq] at this
 exact this.1
theorem zEy {x y : Int} (hx : Sm x) (hy : Sm y) {c : Nat} (hc : c < 6) : zTE (zTn x y) c = (zTE x c && zTE y c) := by
 obtain ⟨a, rfl⟩ := Int.eq_ofNat_of_zero_le hx.1
 obtain ⟨b, rfl⟩ := Int.eq_ofNat_of_zero_le hy.1
 have h1 := hx.2
 have h2 := hy.2
 have := List.all_eq_true.1 (List.all_eq_true.1 (List.all_eq_true.1 zHb a (List.mem_range.2 (by omega))) b (List.mem_range.2 (by omega))) c (List.mem_range.2 hc)
 simpa using this
theorem zEa {l : List Int} (h : ∀ x, x ∈ l → Sm x) (n : Nat) : Sm (l.getD n 0) := by
 by_cases hn : n < l.length
 ·have : l.getD n 0 = l[n] := by simp [List.getD, hn]
  rw [this]; exact h _ (List.getElem_mem hn)
 ·have : l.getD n 0 = 0 := by simp [List.getD, List.getElem?_eq_none (Nat.le_of_not_lt hn)]
  rw [this]; exact ⟨by omega, by omega⟩
theorem zDl : ∀ (l : List Cl) (i : Nat) (acc : List Int), i + l.length ≤ 6 → (∀ x, x ∈ acc → Sm x) → ∀ x, x ∈ zTS l i acc → Sm x
 | [], _, _, _, h, x, hx => h x hx
 | c :: r, i, acc, hl, h, x, hx => by
  rw [zTS] at hx
  refine zDl r (i + 1) _ (by simp at hl; omega) (fun y hy => ?_) x hx
  rcases List.mem_append.1 hy with hy | hy
  ·exact h y hy
  ·have hw := zPu (i := i) (by simp at hl; omega)
   have : y = if 0 ≤ c.under then or8 (T2 0 i) (acc.getD c.under.toNat 0) else T2 0 i := by simpa using hy
   rw [this]
   split
   ·exact zLk hw (zEa h _)
   ·exact hw
theorem zAq {t : Trd} (h : t.cls.length ≤ 6) (n : Nat) : Sm ((W8 t).getD n 0) := zEa (zDl t.cls 0 [] (by omega) (by simp)) n
theorem zGz (s : Int) : ∀ n : Nat, 0 ≤ G9 s n ↔ ∃ c, c < n ∧ zTE s c = true
 | 0 => by simp [G9]
 | n + 1 => by
  rw [G9]
  by_cases h : zTE s n = true
  ·rw [if_pos h]
   exact ⟨fun _ => ⟨n, by omega, h⟩, fun _ => by omega⟩
  ·rw [if_neg h, zGz s n]
   constructor
   ·rintro ⟨c, h1, h2⟩; exact ⟨c, by omega, h2⟩
   ·rintro ⟨c, h1, h2⟩
    by_cases e : c = n
    ·rw [e] at h2; exact absurd h2 h
    ·exact ⟨c, by omega, h2⟩
theorem zK3 {t : Trd} (h6 : t.cls.length ≤ 6) (a b : Nat) : 0 ≤ S5 t a b ↔ ∃ c, c < t.cls.length ∧ zTE ((W8 t).getD a 0) c = true ∧ zTE ((W8 t).getD b 0) c = true := by
 unfold S5
 rw [zGz]
 constructor
 ·rintro ⟨c, h1, h2⟩
  rw [zEy (zAq h6 a) (zAq h6 b) (by omega), Bool.and_eq_true] at h2
  exact ⟨c, h1, h2⟩
 ·rintro ⟨c, h1, h2, h3⟩
  exact ⟨c, h1, by rw [zEy (zAq h6 a) (zAq h6 b) (by omega), h2, h3]; rfl⟩
end Go.Abs

namespace Go.Abs
open Go
def sortS : List Str := [[102, 111, 111, 100], [98, 114, 101, 97, 100], [99, 108, 111, 116, 104], [104, 97, 116, 115], [119, 111, 111, 100], [105, 114, 111, 110], [98, 101, 101, 114], [105, 110], [115, 101, 101]]
def callW : List Str := [[98, 97, 107, 101, 114], [98, 97, 107, 101, 114, 115], [98, 111, 110, 110, 101, 116, 115], [98, 114, 101, 119, 101, 114], [98, 114, 117, 115, 104, 101, 115], [98, 117, 116, 99, 104, 101, 114], [99, 97, 110, 100, 108, 101, 115], [99, 111, 111, 112, 101, 114], [99, 111, 111, 112, 101, 114, 115], [99, 117, 116, 108, 101, 114], [104, 97, 116, 116, 101, 114], [104, 111, 115, 105, 101, 114], [109, 101, 114, 99, 101, 114], [109, 105, 108, 108, 105, 110, 101, 114], [116, 97, 105, 108, 111, 114], [116, 97, 110, 110, 101, 114]]
theorem zMj {k : Nat} (h : k < 9) : p9 (sortS.getD k default) = true := by
 have : (List.range 9).all (fun k => p9 (sortS.getD k default)) = true := by decide
 exact List.all_eq_true.1 this k (List.mem_range.2 h)
theorem zMi {j k : Nat} (hj : j < 9) (hk : k < 9) (e : sortS.getD j default = sortS.getD k default) : j = k := by
 have : (List.range 9).all (fun j => (List.range 9).all fun k => decide (sortS.getD j default = sortS.getD k default → j = k)) = true := by decide
 exact of_decide_eq_true (List.all_eq_true.1 (List.all_eq_true.1 this j (List.mem_range.2 hj)) k (List.mem_range.2 hk)) e
theorem zH1 {k : Nat} (h : k < 16) : p9 (callW.getD k default) = true := by
 have : (List.range 16).all (fun k => p9 (callW.getD k default)) = true := by decide
 exact List.all_eq_true.1 this k (List.mem_range.2 h)
theorem zH0 {j k : Nat} (hj : j < k) (hk : k < 16) : (callW.getD j default == callW.getD k default) = false := by
 have : (List.range 16).all (fun k => (List.range k).all fun j => !(callW.getD j default == callW.getD k default)) = true := by decide
 simpa using List.all_eq_true.1 (List.all_eq_true.1 this k (List.mem_range.2 hk)) j (List.mem_range.2 hj)
theorem zHz {j k : Nat} (hj : j < k) (hk : k < 16) : u3 (callW.getD k default) (callW.getD j default) = false := by
 have : (List.range 16).all (fun k => (List.range k).all fun j => !(u3 (callW.getD k default) (callW.getD j default))) = true := by decide
 simpa using List.all_eq_true.1 (List.all_eq_true.1 this k (List.mem_range.2 hk)) j (List.mem_range.2 hj)
theorem J6 {n lo hi : Int} (h1 : lo ≤ n) (h2 : n ≤ hi) : btw n lo hi = true := by unfold btw; simp [h1, h2]
theorem zA4 {f : Nat → Int} : ∀ {n k : Nat}, (∀ j, k ≤ j → j < k + n → f j = 0) → u0 f n k = 0
 | 0, _, _ => rfl
 | n + 1, k, h => by
  rw [u0, if_pos (h k (Nat.le_refl _) (by omega))]
  exact zA4 fun j h1 h2 => h j (by omega) (by omega)
structure ClK (ns : List Nat) (k : Nat) (c : Cl) : Prop where
 nm : c.name = sortS.getD (ns.getD k 0) default
 un : -1 ≤ c.under ∧ c.under < k
structure HdK (ws : List Nat) (c n k : Nat) (h : Hd) : Prop where
 wd : h.word = callW.getD (ws.getD k 0) default
 cls : -1 ≤ h.cls ∧ h.cls < c
 see : -1 ≤ h.see ∧ h.see < n ∧ h.see ≠ k
 als : ∀ j, j < h.also.length → 0 ≤ h.also.getD j 0 ∧ h.also.getD j 0 < n ∧ h.also.getD j 0 ≠ k ∧ (0 < j → h.also.getD (j - 1) 0 < h.also.getD j 0)
 len : h.also.length ≤ n
 kd : Y2 h = 0
theorem zJf {ns : List Nat} (h : ns.Nodup) {j k : Nat} (hj : j < ns.length) (hk : k < ns.length) (e : ns.getD j 0 = ns.getD k 0) : j = k := by
 simp only [List.getD, List.getElem?_eq_getElem hj, List.getElem?_eq_getElem hk, Option.getD_some] at e
 rcases Nat.lt_trichotomy j k with hlt | heq | hgt
 ·exact absurd e (List.pairwise_iff_getElem.1 h j k hj hk hlt)
 ·exact heq
 ·exact absurd e.symm (List.pairwise_iff_getElem.1 h k j hk hj hgt)
theorem zCT {ws : List Nat} (h : ws.Pairwise (· < ·)) {j k : Nat} (hj : j < k) (hk : k < ws.length) : ws.getD j 0 < ws.getD k 0 := by
 have hj' : j < ws.length := by omega
 simp only [List.getD, List.getElem?_eq_getElem hj', List.getElem?_eq_getElem hk, Option.getD_some]
 exact List.pairwise_iff_getElem.1 h j k hj' hk hj
theorem L3 {ws : List Nat} {m : Nat} (h : ∀ x, x ∈ ws → x < m) {k : Nat} (hk : k < ws.length) : ws.getD k 0 < m := by
 simp only [List.getD, List.getElem?_eq_getElem hk, Option.getD_some]
 exact h _ (List.getElem_mem hk)
theorem zGm {α : Type} [Inhabited α] {l : List α} {i : Nat} {p : α → Bool} (h : ∀ j, j < i → j < l.length → p (l.getD j default) = false) : (l.take i).any p = false := by
 rw [List.any_eq_false]
 intro x hx
 obtain ⟨j, hj, rfl⟩ := List.getElem_of_mem hx
 simp only [List.length_take] at hj
 have := h j (by omega) (by omega)
 simp only [List.getD, List.getElem?_eq_getElem (show j < l.length by omega), Option.getD_some] at this
 simp [this]
theorem zLJ {l : List Cl} {ns : List Nat} (hn : ns.Nodup) (h9 : ∀ x, x ∈ ns → x < 9) (hl : l.length ≤ ns.length) (h : ∀ k, k < l.length → ClK ns k (l.getD k default)) : u0 (Q4 l) l.length 0 = 0 := by
 refine zA4 fun i _ hi => ?_
 have hi : i < l.length := by omega
 have c := h i hi
 have w : p9 (l.getD i default).name = true := by rw [c.nm]; exact zMj (L3 h9 (by omega))
 unfold Q4
 rw [if_neg (by rw [w]; decide), if_neg, if_neg, if_neg]
 ·have := c.un; omega
 ·have := c.un
  rw [J6 (by omega) (by omega)]; decide
 ·rw [zGm (fun j hj hjl => ?_)]; · decide
  have cj := h j hjl
  unfold zTM
  rw [cj.nm, c.nm, beq_eq_false_iff_ne]
  intro e
  have := zMi (L3 h9 (show j < ns.length by omega)) (L3 h9 (show i < ns.length by omega)) e
  have := zJf hn (by omega) (by omega) this
  omega
theorem zLK {t : Trd} {ws : List Nat} (hw : ws.Pairwise (· < ·)) (h16 : ∀ x, x ∈ ws → x < 16) (hl : t.hds.length = ws.length) (h : ∀ k, k < t.hds.length → HdK ws t.cls.length t.hds.length k (t.hds.getD k default)) : u0 (U3 t) t.hds.length 0 = 0 := by
 refine zA4 fun i _ hi => ?_
 have hi : i < t.hds.length := by omega
 have c := h i hi
 have w : p9 (t.hds.getD i default).word = true := by rw [c.wd]; exact zH1 (L3 h16 (by omega))
 have ha : u0 (W9 t.hds.length i (t.hds.getD i default).also) (t.hds.getD i default).also.length 0 = 0 := by
  refine zA4 fun j _ hj => ?_
  have a := c.als j (by omega)
  unfold W9
  rw [if_neg, if_neg a.2.2.1, if_neg]
  ·rintro ⟨h0, h1⟩
   have := a.2.2.2 h0; omega
  ·rw [J6 (by omega) (by omega)]; decide
 unfold U3
 simp only
 rw [if_neg (by rw [w]; decide), if_neg, if_neg, if_neg, if_neg c.see.2.2, if_neg (by rw [ha]; simp), c.kd]
 ·have := c.cls; have := c.see
  rw [J6 (by omega) (by omega), J6 (by omega) (by omega)]; decide
 ·rintro ⟨h0, h1⟩
  have d := h (i - 1) (by omega)
  rw [c.wd, d.wd, zHz (zCT hw (by omega) (by omega)) (L3 h16 (by omega))] at h1
  cases h1
 ·rw [zGm (fun j hj hjl => ?_)]; · decide
  have d := h j hjl
  unfold zTP
  rw [d.wd, c.wd]
  exact zH0 (zCT hw hj (by omega)) (L3 h16 (by omega))
theorem zLL {t : Trd} {ns ws : List Nat} (h1 : t.cls.length ≤ 6) (h2 : t.hds.length ≤ 6) (hn : ns.Nodup) (h9 : ∀ x, x ∈ ns → x < 9) (hl : t.cls.length ≤ ns.length) (hc : ∀ k, k < t.cls.length → ClK ns k (t.cls.getD k default))
  (hw : ws.Pairwise (· < ·)) (h16 : ∀ x, x ∈ ws → x < 16) (hwl : t.hds.length = ws.length) (hh : ∀ k, k < t.hds.length → HdK ws t.cls.length t.hds.length k (t.hds.getD k default)) : b8 t = 0 := by
 unfold b8
 rw [if_neg (by omega), if_neg (by rw [zLJ hn h9 hl hc]; simp), zLK hw h16 hwl hh]
end Go.Abs

namespace Go.Abs
open Go Go.Proofs Tryz
attribute [local irreducible] q9 Hold y2
variable [Cur]
theorem zGW : zSx prog 62 [] [] (.own 0 1 0 9) [.row 1 (sortS.map sV)] := by
 unfold sortS
 simp only [List.map]
 refine z9 func62 rfl (fun E hE => ?_); simp only [go_sem, ntmps62]
 refine wk1 trivial ?_
 refine ⟨[_], [some 0], [], ⟨rfl, trivial⟩, ?_⟩
 simp only [go_sem, *]
theorem zBf : zSx prog 64 [] [] (.own 0 1 0 16) [.row 1 (callW.map sV)] := by
 unfold callW
 simp only [List.map]
 refine z9 func64 rfl (fun E hE => ?_); simp only [go_sem, ntmps64]
 refine wk1 trivial ?_
 refine ⟨[_], [some 0], [], ⟨rfl, trivial⟩, ?_⟩
 simp only [go_sem, *]
omit [Cur] in
theorem zMh {k : Nat} (h : k < 9) : (sortS.map sV).getD k AV.any = sV (sortS.getD k default) := by
 have hl : k < sortS.length := h
 simp [List.getD, hl]
omit [Cur] in
theorem zHw {k : Nat} (h : k < 16) : (callW.map sV).getD k AV.any = sV (callW.getD k default) := by
 have hl : k < callW.length := h
 simp [List.getD, hl]
end Go.Abs

namespace Go.Abs
open Go Go.Proofs Tryz
variable [Cur]
def ClR (ns : List Nat) (i : Nat) (s s' : List Cl × Dice) : Prop :=
 ∃ u : Int, zSx prog 20 [.ptr 0 0, iV (-1), iV ((i : Int) - 1)] [y4 s.2] (iV u) [y4 s'.2] ∧ s'.1 = s.1 ++ [⟨sortS.getD (ns.getD i 0) default, u⟩]
theorem zEb {α : Type} [Inhabited α] {l : List α} {x : α} {k : Nat} : (l ++ [x]).getD k default = if k < l.length then l.getD k default else if k = l.length then x else default := by
 by_cases h : k < l.length
 ·rw [if_pos h]; simp [List.getD, List.getElem?_append_left h]
 ·rw [if_neg h]
  by_cases h2 : k = l.length
  ·rw [if_pos h2, h2]; simp [List.getD]
  ·rw [if_neg h2]; simp [List.getD, List.getElem?_eq_none (show (l ++ [x]).length ≤ k by simp; omega)]
theorem zIC (ns : List Nat) (d : Dice) (hd : DOk d) (n : Nat) (hn : n ≤ 1000) : ∃ q : Nat → List Cl × Dice, q 0 = ([], d) ∧ (∀ i, i < n → ClR ns i (q i) (q (i + 1))) ∧ ∀ i, i ≤ n → (q i).1.length = i ∧ (∀ k, k < i → ClK ns k ((q i).1.getD k default)) ∧ DOk (q i).2 :=
 zAY (S := List Cl × Dice) n ([], d) (ClR ns) (fun i s => s.1.length = i ∧ (∀ k, k < i → ClK ns k (s.1.getD k default)) ∧ DOk s.2) ⟨rfl, fun k hk => by omega, hd⟩ (fun i s hi ⟨h1, h2, h3⟩ => by
  obtain ⟨u, d1, sf, hu, hd1⟩ := P2 s.2 (-1) ((i : Int) - 1) h3 (by omega) (by omega)
  refine ⟨(s.1 ++ [⟨sortS.getD (ns.getD i 0) default, u⟩], d1), ⟨u, sf, rfl⟩, by simp [h1], fun k hk => ?_, hd1⟩
  show ClK ns k ((s.1 ++ [_]).getD k default)
  rw [zEb, h1]
  by_cases e : k < i
  ·rw [if_pos e]; exact h2 k e
  ·rw [if_neg e, if_pos (show k = i by omega), show k = i by omega]
   exact ⟨rfl, by show -1 ≤ u ∧ u < (i : Int); omega⟩)
def zBn (i k : Nat) (s s' : List Nat × Dice) : Prop := (k = i ∧ s' = s) ∨ (k ≠ i ∧ ∃ (b : Bool) (d' : Dice), zSx prog 26 [.ptr 0 0, iV 4] [y4 s.2] (bV b) [y4 d'] ∧ s' = (if b = true then s.1 ++ [k] else s.1, d'))
structure AlK (i k : Nat) (l : List Nat) : Prop where
 up : l.Pairwise (· < ·)
 lt : ∀ x, x ∈ l → x < k ∧ x ≠ i
 len : l.length ≤ k
theorem zHa (i n : Nat) (d : Dice) (hd : DOk d) : ∃ q : Nat → List Nat × Dice, q 0 = ([], d) ∧ (∀ k, k < n → zBn i k (q k) (q (k + 1))) ∧ ∀ k, k ≤ n → AlK i k (q k).1 ∧ DOk (q k).2 :=
 zAY (S := List Nat × Dice) n ([], d) (zBn i) (fun k s => AlK i k s.1 ∧ DOk s.2) ⟨⟨.nil, fun x hx => (by cases hx), Nat.zero_le _⟩, hd⟩ (fun k s hk ⟨h1, h2⟩ => by
  by_cases e : k = i
  ·exact ⟨s, .inl ⟨e, rfl⟩, ⟨h1.up, fun x hx => ⟨by have := (h1.lt x hx).1; omega, (h1.lt x hx).2⟩, by have := h1.len; omega⟩, h2⟩
  ·obtain ⟨b, d', so, hd'⟩ := I7 s.2 4 h2 (by omega)
   refine ⟨(if b = true then s.1 ++ [k] else s.1, d'), .inr ⟨e, b, d', so, rfl⟩, ?_, hd'⟩
   cases b
   ·exact ⟨h1.up, fun x hx => ⟨by have := (h1.lt x hx).1; omega, (h1.lt x hx).2⟩, by have := h1.len; simp; omega⟩
   ·refine ⟨?_, fun x hx => ?_, by have := h1.len; simp; omega⟩
    ·show (s.1 ++ [k]).Pairwise (· < ·)
     rw [List.pairwise_append]
     exact ⟨h1.up, by simp, fun a ha b hb => by rw [List.mem_singleton.1 hb]; exact (h1.lt a ha).1⟩
    ·have hx : x ∈ s.1 ++ [k] := hx
     rcases List.mem_append.1 hx with hx | hx
     ·exact ⟨by have := (h1.lt x hx).1; omega, (h1.lt x hx).2⟩
     ·rw [List.mem_singleton.1 hx]; exact ⟨by omega, e⟩)
abbrev S4 (l : List Nat) : List Int := l.map fun k : Nat => (k : Int)
theorem zE7 {l : List Nat} {j : Nat} (h : j < l.length) : (S4 l).getD j 0 = (l.getD j 0 : Nat) := by
 simp [S4, List.getD, h]
def zBv (w : Str) (n i k0 : Nat) (d : Dice) (s s' : List Hd × Dice) : Prop :=
 ∃ q : Nat → List Nat × Dice, q 0 = ([], d) ∧ (∀ k, k < n → zBn i k (q k) (q (k + 1))) ∧ (∀ k, k ≤ n → (q k).1.length ≤ k) ∧
  (((q n).1.length = 0 ∧ s' = (s.1 ++ [⟨w, k0, -1, []⟩], (q n).2)) ∨
   (0 < (q n).1.length ∧ ∃ (b : Bool) (d' : Dice), zSx prog 26 [.ptr 0 0, iV 4] [y4 (q n).2] (bV b) [y4 d'] ∧ s' = (s.1 ++ [⟨w, if b = true then -1 else (k0 : Int), -1, S4 (q n).1⟩], d')))
def zAl (ws : List Nat) (c n i : Nat) (s s' : List Hd × Dice) : Prop :=
  ∃ (k0 : Nat) (d1 : Dice), zSx prog 27 [.ptr 0 0, iV ((c : Int) - 1)] [y4 s.2] (iV k0) [y4 d1] ∧
    ((n ≤ 1 ∧ zBv (callW.getD (ws.getD i 0) default) n i k0 d1 s s') ∨ (1 < n ∧ ∃ (b : Bool) (d2 : Dice), zSx prog 26 [.ptr 0 0, iV 3] [y4 d1] (bV b) [y4 d2] ∧
      ((b = true ∧ ∃ (r : Nat) (d3 : Dice), r + 2 ≤ n ∧ zSx prog 27 [.ptr 0 0, iV ((n : Int) - 2)] [y4 d2] (iV r) [y4 d3] ∧ s' = (s.1 ++ [⟨callW.getD (ws.getD i 0) default, -1, (((i + 1 + r) % n : Nat) : Int), []⟩], d3)) ∨
       (b = false ∧ zBv (callW.getD (ws.getD i 0) default) n i k0 d2 s s'))))
theorem zKy {w : Str} {see : Int} (h : see ≠ -1) : Y2 ⟨w, -1, see, []⟩ = 0 := by
 unfold Y2
 refine if_neg ?_
 rintro (⟨_, h2 | h2⟩ | ⟨h1, _, _⟩)
 ·exact h2 rfl
 ·exact absurd h2 (by simp)
 ·exact h h1
theorem zFH {w : Str} {cls : Int} {also : List Int} (h : cls ≠ -1) : Y2 ⟨w, cls, -1, also⟩ = 0 := by
 unfold Y2
 refine if_neg ?_
 rintro (⟨h1, _⟩ | ⟨_, h2, _⟩)
 ·exact h1 rfl
 ·exact h h2
theorem zKx {w : Str} {also : List Int} (h : 0 < also.length) : Y2 ⟨w, -1, -1, also⟩ = 0 := by
 unfold Y2
 refine if_neg ?_
 rintro (⟨h1, _⟩ | ⟨_, _, h3⟩)
 ·exact h1 rfl
 ·have h3 : also.length = 0 := h3
  omega
theorem zGl (ws : List Nat) (c n i k0 : Nat) (hk : k0 < c) (d : Dice) (hd : DOk d) (s : List Hd × Dice) : ∃ s', zBv (callW.getD (ws.getD i 0) default) n i k0 d s s' ∧ DOk s'.2 ∧ ∃ h, s'.1 = s.1 ++ [h] ∧ HdK ws c n i h := by
 obtain ⟨q, q0, qR, qG⟩ := zHa i n d hd
 obtain ⟨ha, hd2⟩ := qG n (Nat.le_refl _)
 by_cases hz : (q n).1.length = 0
 ·refine ⟨(s.1 ++ [⟨callW.getD (ws.getD i 0) default, k0, -1, []⟩], (q n).2), ⟨q, q0, qR, fun k hk => (qG k hk).1.len, .inl ⟨hz, rfl⟩⟩, hd2, _, rfl, rfl, ⟨by show -1 ≤ (k0 : Int); omega, by show (k0 : Int) < c; omega⟩, ⟨by show (-1 : Int) ≤ -1; omega, by show (-1 : Int) < n; omega, by show (-1 : Int) ≠ i; omega⟩, fun j hj => (by cases hj), by simp, ?_⟩
  exact zFH (by omega)
 ·obtain ⟨b, d', so, hd'⟩ := I7 (q n).2 4 hd2 (by omega)
  refine ⟨(s.1 ++ [⟨callW.getD (ws.getD i 0) default, if b = true then -1 else (k0 : Int), -1, S4 (q n).1⟩], d'), ⟨q, q0, qR, fun k hk => (qG k hk).1.len, .inr ⟨by omega, b, d', so, rfl⟩⟩, hd', _, rfl, rfl, ⟨by cases b <;> simp <;> (try omega), by cases b <;> simp <;> (try omega)⟩, ⟨by show (-1 : Int) ≤ -1; omega, by show (-1 : Int) < n; omega, by show (-1 : Int) ≠ i; omega⟩, fun j hj => ?_, by have := ha.len; simpa using this, ?_⟩
  ·have hj : j < (q n).1.length := by simpa using hj
   have hm := ha.lt _ (show (q n).1.getD j 0 ∈ (q n).1 by simp [List.getD, hj])
   show 0 ≤ (S4 (q n).1).getD j 0 ∧ (S4 (q n).1).getD j 0 < n ∧ (S4 (q n).1).getD j 0 ≠ i ∧ (0 < j → (S4 (q n).1).getD (j - 1) 0 < (S4 (q n).1).getD j 0)
   rw [zE7 hj]
   refine ⟨by omega, by omega, by omega, fun h0 => ?_⟩
   rw [zE7 (l := (q n).1) (j := j - 1) (by omega)]
   have := zCT ha.up (show j - 1 < j by omega) hj
   omega
  ·cases b
   ·exact zFH (by show (k0 : Int) ≠ -1; omega)
   ·exact zKx (by simp; omega)
theorem zMY {n i r : Nat} (hi : i < n) (hr : r + 2 ≤ n) : (i + 1 + r) % n < n ∧ (i + 1 + r) % n ≠ i := by
 refine ⟨Nat.mod_lt _ (by omega), ?_⟩
 by_cases h : i + 1 + r < n
 ·rw [Nat.mod_eq_of_lt h]; omega
 ·rw [Nat.mod_eq_sub_mod (by omega), Nat.mod_eq_of_lt (by omega)]; omega
theorem zJ8 (ws : List Nat) (c n : Nat) (hc : 1 ≤ c ∧ c ≤ 1000) (hn : n ≤ 1000) (d : Dice) (hd : DOk d) : ∃ q : Nat → List Hd × Dice, q 0 = ([], d) ∧ (∀ i, i < n → zAl ws c n i (q i) (q (i + 1))) ∧ ∀ i, i ≤ n → (q i).1.length = i ∧ (∀ k, k < i → HdK ws c n k ((q i).1.getD k default)) ∧ DOk (q i).2 :=
 zAY (S := List Hd × Dice) n ([], d) (zAl ws c n) (fun i s => s.1.length = i ∧ (∀ k, k < i → HdK ws c n k (s.1.getD k default)) ∧ DOk s.2) ⟨rfl, fun k hk => by omega, hd⟩ (fun i s hi ⟨h1, h2, h3⟩ => by
  have key : ∀ s' : List Hd × Dice, zAl ws c n i s s' → DOk s'.2 → (∃ h, s'.1 = s.1 ++ [h] ∧ HdK ws c n i h) → ∃ s', zAl ws c n i s s' ∧ s'.1.length = i + 1 ∧ (∀ k, k < i + 1 → HdK ws c n k (s'.1.getD k default)) ∧ DOk s'.2 := fun s' hR hd' ⟨h, e, hk⟩ => by
   refine ⟨s', hR, by rw [e]; simp [h1], fun k hk2 => ?_, hd'⟩
   rw [e, zEb, h1]
   by_cases e2 : k < i
   ·rw [if_pos e2]; exact h2 k e2
   ·rw [if_neg e2, if_pos (show k = i by omega), show k = i by omega]
    exact hk
  obtain ⟨k0, d1, st, hk, _, hd1⟩ := I8 s.2 ((c : Int) - 1) h3 (by omega)
  have hk := hk (by omega)
  by_cases hn1 : n ≤ 1
  ·obtain ⟨s', ht, hd', hx⟩ := zGl ws c n i k0 (by omega) d1 hd1 s
   exact key s' ⟨k0, d1, st, .inl ⟨hn1, ht⟩⟩ hd' hx
  ·obtain ⟨b, d2, so, hd2⟩ := I7 d1 3 hd1 (by omega)
   cases b
   ·obtain ⟨s', ht, hd', hx⟩ := zGl ws c n i k0 (by omega) d2 hd2 s
    exact key s' ⟨k0, d1, st, .inr ⟨by omega, false, d2, so, .inr ⟨rfl, ht⟩⟩⟩ hd' hx
   ·obtain ⟨r, d3, s3, hr, _, hd3⟩ := I8 d2 ((n : Int) - 2) hd2 (by omega)
    have hr := hr (by omega)
    have hs := zMY hi (show r + 2 ≤ n by omega)
    refine key (s.1 ++ [⟨callW.getD (ws.getD i 0) default, -1, (((i + 1 + r) % n : Nat) : Int), []⟩], d3) ⟨k0, d1, st, .inr ⟨by omega, true, d2, so, .inl ⟨rfl, r, d3, by omega, s3, rfl⟩⟩⟩ hd3 ⟨_, rfl, rfl, ⟨by show (-1 : Int) ≤ -1; omega, by show (-1 : Int) < c; omega⟩, ⟨?_, ?_, ?_⟩, fun j hj => (by cases hj), by simp, ?_⟩
    ·show (-1 : Int) ≤ (((i + 1 + r) % n : Nat) : Int); omega
    ·show (((i + 1 + r) % n : Nat) : Int) < n; omega
    ·show (((i + 1 + r) % n : Nat) : Int) ≠ i; omega
    ·exact zKy (by omega))
end Go.Abs

namespace Go.Abs
open Go Go.Proofs Tryz
attribute [local irreducible] q9 Hold y2
variable [Cur]
abbrev zTN : AV := .raw (.slice none 0 0)
theorem zIX (d : Dice) (h : DOk d) (c m : Nat) (hc : 1 ≤ c ∧ c ≤ 6) (hm : m ≤ 6) : ∃ (t : Trd) (d' : Dice), zSx prog 22 [.ptr 0 0, iV c, iV m] [y4 d] (.agg [.own 1 2 0 t.cls.length, .own 2 4 0 t.hds.length]) [y4 d', .row 2 (t.cls.map Cl.enc), .row 4 (t.hds.map Hd.enc)] ∧
  b8 t = 0 ∧ (∀ h, h ∈ t.hds → h.also.length ≤ 4294967296) ∧ (1 ≤ t.cls.length ∧ t.cls.length ≤ 6) ∧ DOk d' := by
 obtain ⟨ns, d1, so, hp, hd1⟩ := zEA d 9 (by omega) h
 obtain ⟨n0, d2, sf, hn0, hd2⟩ := P2 d1 1 c hd1 (by omega) (by omega)
 obtain ⟨n, rfl⟩ : ∃ n : Nat, n0 = n := ⟨_, (Int.toNat_of_nonneg (by omega)).symm⟩
 obtain ⟨q, q0, qR, qG⟩ := zIC ns d2 hd2 n (by omega)
 obtain ⟨qn1, qn2, hd3⟩ := qG n (Nat.le_refl _)
 obtain ⟨m1, d4, st, hm1, _, hd4⟩ := I8 (q n).2 m hd3 (by omega)
 have hm1 := hm1 (by omega)
 obtain ⟨ws, d5, sp, hw1, hw2, hw3, hd5⟩ := zIU d4 16 m1 (by omega) (by omega) hd4
 obtain ⟨g, g0, gR, gG⟩ := zJ8 ws n ws.length (by omega) (by omega) d5 hd5
 obtain ⟨gn1, gn2, hd6⟩ := gG ws.length (Nat.le_refl _)
 refine ⟨⟨(q n).1, (g ws.length).1⟩, (g ws.length).2, ?_, zLL (ns := ns) (ws := ws) (by show (q n).1.length ≤ 6; omega) (by show (g ws.length).1.length ≤ 6; omega) (hp.nodup_iff.2 List.nodup_range) (fun x hx => List.mem_range.1 (hp.mem_iff.1 hx)) (by show (q n).1.length ≤ ns.length; rw [hp.length_eq, List.length_range]; omega) (fun k hk => qn2 k (by have hk : k < (q n).1.length := hk; omega)) hw1 hw2 gn1 (fun k hk => ?_), fun h hh => ?_, ?_, hd6⟩
 rotate_left 1
 ·have hk : k < (g ws.length).1.length := hk
  have := gn2 k (by omega)
  rw [qn1]
  show HdK ws n (g ws.length).1.length k _
  rw [gn1]; exact this
 ·obtain ⟨k, hk, rfl⟩ := List.getElem_of_mem hh
  have hk : k < (g ws.length).1.length := hk
  have := (gn2 k (by omega)).len
  simp only [List.getD, List.getElem?_eq_getElem hk, Option.getD_some] at this
  show ((g ws.length).1[k]).also.length ≤ _
  omega
 ·show 1 ≤ (q n).1.length ∧ (q n).1.length ≤ 6; omega
 have hql : ∀ i, i ≤ n → (q i).1.length = i := fun i hi => (qG i hi).1
 have hgl : ∀ i, i ≤ ws.length → (g i).1.length = i := fun i hi => (gG i hi).1
 have hnl : ns.length = 9 := by rw [hp.length_eq]; simp
 have hn9 : ∀ i, i < 9 → ns.getD i 0 < 9 := fun i hi => L3 (fun x hx => List.mem_range.1 (hp.mem_iff.1 hx)) (by omega)
 have hw16 : ∀ i, i < ws.length → ws.getD i 0 < 16 := fun i hi => L3 hw2 hi
 have hwl : ws.length ≤ 6 := by omega
 have hn6 : 1 ≤ n ∧ n ≤ 6 := by omega
 clear qG gG hp hw1 hw2 hw3 gn2 qn2 hd1 hd2 hd3 hd4 hd5 hd6 hm1 hn0 h gn1 qn1
 have h9 : ((9 : Nat) : Int) = 9 := rfl
 have h16 : ((16 : Nat) : Int) = 16 := rfl
 have hsl : sortS.length = 9 := rfl
 have hcl : callW.length = 16 := rfl
 rw [h9] at so
 rw [h16] at sp
 refine z9 func22 rfl (fun E hE => ?_); simp only [go_sem, ntmps22]
 refine wk1 (cc (own [0] (so)) (cc (own [0] (sf)) zGW)) ?_
 clear so sf
 refine y9 rfl (n) (fun i => NoT i) 132 (fun i => [(9, iV ((n - i : Nat) : Int)), (8, .own 3 1 0 9), (7, .ptr 2 0), (6, .ptr 1 0), (0, .ptr 0 0), (2, iV m)]) (fun i => [y4 (q i).2, .box [zTN, zTN], .box [.own 4 2 0 i, zTN], .row 1 (ns.map pnV), .row 2 ((q i).1.map Cl.enc)]) [some 0, some 1, some 2, some 4, none] [] (by trivial) ?_; intro i hi hP
 rcases Nat.lt_or_ge i n with hi2 | hi2
 ·obtain ⟨u, su, hu⟩ := qR i hi2
  have hqi := hql i hi
  obtain ⟨l, da, hq1⟩ : ∃ l da, q i = (l, da) := ⟨_, _, rfl⟩
  obtain ⟨l', db, hq2⟩ : ∃ l' db, q (i + 1) = (l', db) := ⟨_, _, rfl⟩
  rw [hq1] at hqi su hu ⊢
  rw [hq2] at su hu
  simp only at hqi su hu ⊢
  have hk9 := hn9 i (by omega)
  have g1 : (ns.map pnV).getD i AV.any = pnV (ns.getD i 0) := by simp [List.getD, show i < ns.length by omega]
  have g2 := zMh hk9
  generalize sortS.getD (ns.getD i 0) default = nm at *
  generalize ns.getD i 0 = kk at *
  have hd1 : decide (((n - i : Nat) : Int) > 0) = true := by simp; omega
  have hd2 : decide (0 < n - i) = true := by simp; omega
  have hw1 : IntKind.i64.wrap ((i : Int) - 1) = (i : Int) - 1 := wrap_i64 (by omega) (by omega)
  have hw2 : IntKind.i64.wrap (((n - i : Nat) : Int) - 1) = ((n - (i + 1) : Nat) : Int) := by rw [wrap_i64 (by omega) (by omega)]; omega
  clear qR hql gR hgl hn9 hw16 st sp q0 g0
  refine wk1 (cc (own [0] (su)) zGW) ?_
  clear hd1 hd2
  exact y3 (i' := i + 1) [some 0, some 1, some 2, some 3, some 7] [] (by trivial)
 ·obtain rfl : i = n := by omega
  have e0 : i - i = 0 := Nat.sub_self _
  simp only [e0]
  clear qR q0 hn9
  refine wk1 (cc (own [0] (st)) (cc (own [0] (sp)) zBf)) ?_
  clear st sp
  have hqn := hql i (Nat.le_refl _)
  clear hql hP hi hi2 e0
  obtain ⟨n, hnn⟩ : ∃ n, n = i := ⟨_, rfl⟩
  subst hnn
  refine y9 rfl (ws.length) (fun i => NoT i) 132 (fun i => [(12, iV i), (11, iV ws.length), (10, .own 3 1 0 ws.length), (7, .ptr 2 0), (6, .ptr 1 0), (0, .ptr 0 0)]) (fun i => [y4 (g i).2, .box [zTN, zTN], .box [.own 4 2 0 n, .own 5 4 0 i], .row 1 (ws.map pnV), .row 2 ((q n).1.map Cl.enc), .row 4 ((g i).1.map Hd.enc)]) [some 0, some 1, some 2, some 6, some 4, none] [] (by trivial) ?_; intro i hi hP
  rcases Nat.lt_or_ge i ws.length with hi2 | hi2
  ·obtain ⟨k0, da, sT, hR⟩ := gR i hi2
   have hgi := hgl i hi
   obtain ⟨l, dl, hg1⟩ : ∃ l dl, g i = (l, dl) := ⟨_, _, rfl⟩
   obtain ⟨l', db, hg2⟩ : ∃ l' db, g (i + 1) = (l', db) := ⟨_, _, rfl⟩
   rw [hg1] at hgi sT hR ⊢
   rw [hg2] at hR
   simp only at hgi sT ⊢
   have hk16 := hw16 i hi2
   have g1 : (ws.map pnV).getD i AV.any = pnV (ws.getD i 0) := by simp [List.getD, hi2]
   have g2 := zHw hk16
   generalize callW.getD (ws.getD i 0) default = w at *
   generalize ws.getD i 0 = kk at *
   have hd1 : decide ((i : Int) < (ws.length : Int)) = true := by simp; omega
   have hd2 : decide (i < ws.length) = true := by simp; omega
   have hw1 : IntKind.i64.wrap ((n : Int) - 1) = (n : Int) - 1 := wrap_i64 (by omega) (by omega)
   clear gR hgl hw16 g0
   rcases hR with ⟨hn1, hR⟩ | ⟨hn1, b, d2', s3, ⟨hb, r, d3', hr, s4, hs⟩ | ⟨hb, hR⟩⟩
   ·have hd7 : decide ((ws.length : Int) > 1) = false := by simp; omega
    have hd8 : decide (1 < ws.length) = false := by simp; omega
    refine wk1 (cc (own [0] (sT)) zBf) ?_
    clear hd7 hd8 sT g1 g2
    obtain ⟨al, al0, alR, alL, hend⟩ := hR
    refine y9 rfl (ws.length) (fun k => NoT k) 132 (fun k => [(14, iV k), (13, .ptr 6 0), (12, iV i), (11, iV ws.length), (10, .own 3 1 0 ws.length), (7, .ptr 2 0), (6, .ptr 1 0), (0, .ptr 0 0)]) (fun k => [y4 (al k).2, .box [zTN, zTN], .box [.own 4 2 0 n, .own 5 4 0 i], .row 1 (ws.map pnV), .row 2 ((q n).1.map Cl.enc), .row 4 (l.map Hd.enc), .box [sV w, iV k0, iV (-1), .own 7 1 0 (al k).1.length], .row 1 ((al k).1.map pnV)]) [some 0, some 1, some 2, some 3, some 4, some 5, some 7, none] [] (by trivial) ?_; intro k hk hP
    clear al0 hd1 hd2
    rcases Nat.lt_or_ge k ws.length with hk2 | hk2
    ·have hkr := alR k hk2
     have hkl := alL k hk
     have hd3 : decide ((k : Int) < (ws.length : Int)) = true := by simp; omega
     have hd4 : decide (k < ws.length) = true := by simp; omega
     clear alR alL hend
     obtain ⟨x, dx, hx⟩ : ∃ x dx, al k = (x, dx) := ⟨_, _, rfl⟩
     obtain ⟨y, dy, hy⟩ : ∃ y dy, al (k + 1) = (y, dy) := ⟨_, _, rfl⟩
     rw [hx] at hkr hkl ⊢
     rw [hy] at hkr
     simp only at hkr hkl ⊢
     rcases hkr with ⟨he, hs⟩ | ⟨he, b4, d4', s4, hs⟩
     ·have hb1 : ((k : Int) != (i : Int)) = false := by simp; omega
      replace hs := Prod.mk.inj hs
      obtain ⟨e1, e2⟩ := hs
      subst e1 e2
      clear he
      refine wk1 trivial ?_
      clear hd3 hd4 hb1
      exact y3 (i' := k + 1) [some 0, some 1, some 2, some 3, some 4, some 5, some 6, some 7] [] (by trivial)
     ·have hb1 : ((k : Int) != (i : Int)) = true := by simp; omega
      replace hs := Prod.mk.inj hs
      obtain ⟨e1, e2⟩ := hs
      subst e2
      cases b4
      ·replace e1 : y = x := e1
       subst e1
       clear he
       refine wk1 (own [0] (s4)) ?_
       clear hd3 hd4 hb1
       exact y3 (i' := k + 1) [some 0, some 1, some 2, some 3, some 4, some 5, some 6, some 7] [] (by trivial)
      ·replace e1 : y = x ++ [k] := e1
       subst e1
       clear he
       refine wk1 (own [0] (s4)) ?_
       clear hd3 hd4 hb1
       exact y3 (i' := k + 1) [some 0, some 1, some 2, some 3, some 4, some 5, some 6, some 9] [] (by trivial)
    ·have he : k = ws.length := by omega
     subst he
     have hd3 : decide ((ws.length : Int) < (ws.length : Int)) = false := by simp
     have hd4 : decide (ws.length < ws.length) = false := by simp
     clear alR alL
     obtain ⟨x, dx, hx⟩ : ∃ x dx, al ws.length = (x, dx) := ⟨_, _, rfl⟩
     rw [hx] at hend ⊢
     simp only at hend ⊢
     have hmi : (S4 x).map iV = x.map pnV := by rw [List.map_map]; rfl
     refine V3 (N := 132) (env := [(14, iV ws.length), (13, .ptr 6 0), (12, iV i), (11, iV ws.length), (10, .own 3 1 0 ws.length), (7, .ptr 2 0), (6, .ptr 1 0), (0, .ptr 0 0)]) (As := [y4 dx, .box [zTN, zTN], .box [.own 4 2 0 n, .own 5 4 0 i], .row 1 (ws.map pnV), .row 2 ((q n).1.map Cl.enc), .row 4 (l.map Hd.enc), .box [sV w, iV k0, iV (-1), .list (x.map pnV)]]) [some 0, some 1, some 2, some 3, some 4, some 5, some 6] [7] (by (simp only [Weak, go_sem, List.map_append, List.map_set, *] <;> (try simp (disch := omega) only [o3]) <;> (try simp) <;> (try omega))) ?_
     rcases hend with ⟨hz, hs⟩ | ⟨hz, b5, d5', s5, hs⟩
     ·have hd5 : decide ((x.length : Int) > 0) = false := by rw [hz]; rfl
      have hd6 : decide (0 < x.length) = false := by rw [hz]; rfl
      have hx0 : x = [] := List.eq_nil_of_length_eq_zero hz
      subst hx0
      replace hs := Prod.mk.inj hs
      obtain ⟨e1, e2⟩ := hs
      subst e1 e2
      clear hmi hz
      refine wk1 trivial ?_
      clear hd3 hd4 hd5 hd6
      exact y3 (i' := i + 1) [some 0, some 1, some 2, some 3, some 4, some 8] [] (by trivial)
     ·have hd5 : decide ((x.length : Int) > 0) = true := decide_eq_true (by omega)
      have hd6 : decide (0 < x.length) = true := decide_eq_true hz
      replace hs := Prod.mk.inj hs
      obtain ⟨e1, e2⟩ := hs
      subst e2
      cases b5
      ·simp only [Bool.false_eq_true, if_false] at e1
       subst e1
       refine wk1 (own [0] (s5)) ?_
       clear hd3 hd4 hd5 hd6
       exact y3 (i' := i + 1) [some 0, some 1, some 2, some 3, some 4, some 8] [] (by trivial)
      ·simp only [if_true] at e1
       subst e1
       refine wk1 (own [0] (s5)) ?_
       clear hd3 hd4 hd5 hd6
       exact y3 (i' := i + 1) [some 0, some 1, some 2, some 3, some 4, some 8] [] (by trivial)
   ·subst hb
    have hd7 : decide ((ws.length : Int) > 1) = true := by simp; omega
    have hd8 : decide (1 < ws.length) = true := by simp; omega
    have hw3 : IntKind.i64.wrap ((ws.length : Int) - 2) = (ws.length : Int) - 2 := wrap_i64 (by omega) (by omega)
    have hw4 : IntKind.i64.wrap ((i : Int) + 1) = (i : Int) + 1 := wrap_i64 (by omega) (by omega)
    have hw5 : IntKind.i64.wrap ((i : Int) + 1 + (r : Int)) = (i : Int) + 1 + (r : Int) := wrap_i64 (by omega) (by omega)
    have hrem : ((i : Int) + 1 + (r : Int)).tmod (ws.length : Int) = (((i + 1 + r) % ws.length : Nat) : Int) := by
     rw [Int.tmod_eq_emod_of_nonneg (by omega), show (i : Int) + 1 + (r : Int) = ((i + 1 + r : Nat) : Int) by omega]
     rfl
    replace hs := Prod.mk.inj hs
    obtain ⟨e1, e2⟩ := hs
    subst e1 e2
    generalize (i + 1 + r) % ws.length = see at *
    repeat' (first | ((with_reducible refine B7 [0, 1, 0, 0, 1, 0, 0, 1, 0, 1, 1, 1, 1, 1, 1] ?_)) | (refine Qr rfl ?_; try intro _ hK; try simp only [go_sem, *]) | (refine Qi rfl rfl rfl rfl ?_ ?_ <;> (intro hb; (try intro _ hK); have hc := hb; try simp only [go_sem] at hc; simp only [go_sem, *])) | refine Qh rfl ?_ | refine Qd rfl (by kernel_rfl) ?_ | (refine Qc rfl rfl ?_ ?_ <;> (intro hb; have hc := hb; try simp only [go_sem] at hc)) | refine z8 rfl ?_ | (refine Qb ?_ ?_; focus kernel_rfl) | (refine j5 [0] (sT) ?_; simp only [go_sem, *]) | (refine v9 (zBf) ?_; simp only [go_sem, *]) | ((with_reducible apply And.intro); focus omega) | (refine z7 hK ?_; clear hK; simp only [go_sem, *]) | simp only [z6, z5, go_sem, *])
    all_goals try contradiction
    refine ⟨?_⟩
    refine V3 (N := 132) (env := [(13, .ptr 6 0), (12, iV i), (11, iV ws.length), (10, .own 3 1 0 ws.length), (7, .ptr 2 0), (6, .ptr 1 0), (0, .ptr 0 0)]) (As := [y4 da, .box [zTN, zTN], .box [.own 4 2 0 n, .own 5 4 0 i], .row 1 (ws.map pnV), .row 2 ((q n).1.map Cl.enc), .row 4 (l.map Hd.enc), .box [sV w, iV k0, iV (-1), .list []]]) [some 0, some 1, some 2, some 3, some 4, some 5, some 7] [] (by (simp only [Weak, go_sem, List.map_append, List.map_set, *] <;> (try simp (disch := omega) only [o3]) <;> (try simp) <;> (try omega))) ?_
    clear sT
    refine wk1 (cc (own [0] (s3)) (own [0] (s4))) ?_
    exact y3 (i' := i + 1) [some 0, some 1, some 2, some 3, some 4, some 8] [] (by trivial)
   ·subst hb
    have hd7 : decide ((ws.length : Int) > 1) = true := by simp; omega
    have hd8 : decide (1 < ws.length) = true := by simp; omega
    refine wk1 (cc (own [0] (sT)) (cc (own [0] (s3)) zBf)) ?_
    clear hd7 hd8 sT s3 g1 g2
    obtain ⟨al, al0, alR, alL, hend⟩ := hR
    refine y9 rfl (ws.length) (fun k => NoT k) 132 (fun k => [(14, iV k), (13, .ptr 6 0), (12, iV i), (11, iV ws.length), (10, .own 3 1 0 ws.length), (7, .ptr 2 0), (6, .ptr 1 0), (0, .ptr 0 0)]) (fun k => [y4 (al k).2, .box [zTN, zTN], .box [.own 4 2 0 n, .own 5 4 0 i], .row 1 (ws.map pnV), .row 2 ((q n).1.map Cl.enc), .row 4 (l.map Hd.enc), .box [sV w, iV k0, iV (-1), .own 7 1 0 (al k).1.length], .row 1 ((al k).1.map pnV)]) [some 0, some 1, some 2, some 3, some 4, some 5, some 7, none] [] (by trivial) ?_; intro k hk hP
    clear al0 hd1 hd2
    rcases Nat.lt_or_ge k ws.length with hk2 | hk2
    ·have hkr := alR k hk2
     have hkl := alL k hk
     have hd3 : decide ((k : Int) < (ws.length : Int)) = true := by simp; omega
     have hd4 : decide (k < ws.length) = true := by simp; omega
     clear alR alL hend
     obtain ⟨x, dx, hx⟩ : ∃ x dx, al k = (x, dx) := ⟨_, _, rfl⟩
     obtain ⟨y, dy, hy⟩ : ∃ y dy, al (k + 1) = (y, dy) := ⟨_, _, rfl⟩
     rw [hx] at hkr hkl ⊢
     rw [hy] at hkr
     simp only at hkr hkl ⊢
     rcases hkr with ⟨he, hs⟩ | ⟨he, b4, d4', s4, hs⟩
     ·have hb1 : ((k : Int) != (i : Int)) = false := by simp; omega
      replace hs := Prod.mk.inj hs
      obtain ⟨e1, e2⟩ := hs
      subst e1 e2
      clear he
      refine wk1 trivial ?_
      clear hd3 hd4 hb1
      exact y3 (i' := k + 1) [some 0, some 1, some 2, some 3, some 4, some 5, some 6, some 7] [] (by trivial)
     ·have hb1 : ((k : Int) != (i : Int)) = true := by simp; omega
      replace hs := Prod.mk.inj hs
      obtain ⟨e1, e2⟩ := hs
      subst e2
      cases b4
      ·replace e1 : y = x := e1
       subst e1
       clear he
       refine wk1 (own [0] (s4)) ?_
       clear hd3 hd4 hb1
       exact y3 (i' := k + 1) [some 0, some 1, some 2, some 3, some 4, some 5, some 6, some 7] [] (by trivial)
      ·replace e1 : y = x ++ [k] := e1
       subst e1
       clear he
       refine wk1 (own [0] (s4)) ?_
       clear hd3 hd4 hb1
       exact y3 (i' := k + 1) [some 0, some 1, some 2, some 3, some 4, some 5, some 6, some 9] [] (by trivial)
    ·have he : k = ws.length := by omega
     subst he
     have hd3 : decide ((ws.length : Int) < (ws.length : Int)) = false := by simp
     have hd4 : decide (ws.length < ws.length) = false := by simp
     clear alR alL
     obtain ⟨x, dx, hx⟩ : ∃ x dx, al ws.length = (x, dx) := ⟨_, _, rfl⟩
     rw [hx] at hend ⊢
     simp only at hend ⊢
     have hmi : (S4 x).map iV = x.map pnV := by rw [List.map_map]; rfl
     refine V3 (N := 132) (env := [(14, iV ws.length), (13, .ptr 6 0), (12, iV i), (11, iV ws.length), (10, .own 3 1 0 ws.length), (7, .ptr 2 0), (6, .ptr 1 0), (0, .ptr 0 0)]) (As := [y4 dx, .box [zTN, zTN], .box [.own 4 2 0 n, .own 5 4 0 i], .row 1 (ws.map pnV), .row 2 ((q n).1.map Cl.enc), .row 4 (l.map Hd.enc), .box [sV w, iV k0, iV (-1), .list (x.map pnV)]]) [some 0, some 1, some 2, some 3, some 4, some 5, some 6] [7] (by (simp only [Weak, go_sem, List.map_append, List.map_set, *] <;> (try simp (disch := omega) only [o3]) <;> (try simp) <;> (try omega))) ?_
     rcases hend with ⟨hz, hs⟩ | ⟨hz, b5, d5', s5, hs⟩
     ·have hd5 : decide ((x.length : Int) > 0) = false := by rw [hz]; rfl
      have hd6 : decide (0 < x.length) = false := by rw [hz]; rfl
      have hx0 : x = [] := List.eq_nil_of_length_eq_zero hz
      subst hx0
      replace hs := Prod.mk.inj hs
      obtain ⟨e1, e2⟩ := hs
      subst e1 e2
      clear hmi hz
      refine wk1 trivial ?_
      clear hd3 hd4 hd5 hd6
      exact y3 (i' := i + 1) [some 0, some 1, some 2, some 3, some 4, some 8] [] (by trivial)
     ·have hd5 : decide ((x.length : Int) > 0) = true := decide_eq_true (by omega)
      have hd6 : decide (0 < x.length) = true := decide_eq_true hz
      replace hs := Prod.mk.inj hs
      obtain ⟨e1, e2⟩ := hs
      subst e2
      cases b5
      ·simp only [Bool.false_eq_true, if_false] at e1
       subst e1
       refine wk1 (own [0] (s5)) ?_
       clear hd3 hd4 hd5 hd6
       exact y3 (i' := i + 1) [some 0, some 1, some 2, some 3, some 4, some 8] [] (by trivial)
      ·simp only [if_true] at e1
       subst e1
       refine wk1 (own [0] (s5)) ?_
       clear hd3 hd4 hd5 hd6
       exact y3 (i' := i + 1) [some 0, some 1, some 2, some 3, some 4, some 8] [] (by trivial)
  ·obtain rfl : i = ws.length := by omega
   have hd1 : decide ((ws.length : Int) < (ws.length : Int)) = false := by simp
   have hd2 : decide (ws.length < ws.length) = false := by simp
   clear gR hgl hw16 g0
   refine wk1 trivial ?_
   refine ⟨[.agg [.own 4 2 0 n, .own 5 4 0 ws.length]], [some 0, some 4, some 5], [], ⟨(by simp only [Z2, go_sem]), trivial⟩, ?_⟩
   simp only [go_sem, *]
end Go.Abs

namespace Go.Abs
open Go Go.Proofs Tryz
attribute [local irreducible] q9 Hold y2
variable [Cur]
structure PerM (tr : Trd) (st : Int) (p : Per) : Prop where
 st : 0 ≤ p.street ∧ p.street < st
 no : 1 ≤ p.number ∧ p.number ≤ 40
 hd : p.head = -1 ∨ (0 ≤ p.head ∧ p.head < tr.hds.length ∧ 0 ≤ (tr.hds.getD p.head.toNat default).cls)
def Z8 (l : List Hd) (i : Nat) : List Nat := (List.range i).filter fun k => decide (0 ≤ (l.getD k default).cls)
theorem zEz (l : List Hd) (i : Nat) : (Z8 l i).length ≤ i := by
 unfold Z8
 have := List.length_filter_le (fun k => decide (0 ≤ (l.getD k default).cls)) (List.range i)
 simpa using this
theorem zJ7 (l : List Hd) (i : Nat) : Z8 l (i + 1) = Z8 l i ++ if 0 ≤ (l.getD i default).cls then [i] else [] := by
 unfold Z8
 rw [List.range_succ, List.filter_append, List.filter_cons, List.filter_nil]
 by_cases h : 0 ≤ (l.getD i default).cls <;> simp [h]
def zUj (H : List Nat) (d : Dice) (hd : Int) (d' : Dice) : Prop :=
 (H.length = 0 ∧ hd = -1 ∧ d' = d) ∨ (0 < H.length ∧ ∃ (b : Bool) (d7 : Dice), zSx prog 26 [.ptr 0 0, iV 4] [y4 d] (bV b) [y4 d7] ∧
  ((b = true ∧ hd = -1 ∧ d' = d7) ∨ (b = false ∧ ∃ r : Nat, r < H.length ∧ zSx prog 27 [.ptr 0 0, iV ((H.length : Int) - 1)] [y4 d7] (iV r) [y4 d'] ∧ hd = (H.getD r 0 : Nat))))
theorem zLr (tr : Trd) (hh : tr.hds.length ≤ 1000) (d : Dice) (hd : DOk d) : ∃ (n : Int) (d' : Dice), zUj (Z8 tr.hds tr.hds.length) d n d' ∧ DOk d' ∧ (n = -1 ∨ (0 ≤ n ∧ n < tr.hds.length ∧ 0 ≤ (tr.hds.getD n.toNat default).cls)) := by
 have hHl := zEz tr.hds tr.hds.length
 by_cases hz : (Z8 tr.hds tr.hds.length).length = 0
 ·exact ⟨-1, d, .inl ⟨hz, rfl, rfl⟩, hd, .inl rfl⟩
 ·obtain ⟨b, d7, so, hd7⟩ := I7 d 4 hd (by omega)
  cases b
  ·obtain ⟨r, d8, st, hr, _, hd8⟩ := I8 d7 (((Z8 tr.hds tr.hds.length).length : Int) - 1) hd7 (by omega)
   have hr := hr (by omega)
   have hrl : r < (Z8 tr.hds tr.hds.length).length := by omega
   refine ⟨((Z8 tr.hds tr.hds.length).getD r 0 : Nat), d8, .inr ⟨by omega, false, d7, so, .inr ⟨rfl, r, hrl, st, rfl⟩⟩, hd8, .inr ?_⟩
   have hm : (Z8 tr.hds tr.hds.length).getD r 0 ∈ Z8 tr.hds tr.hds.length := by simp [List.getD, hrl]
   generalize (Z8 tr.hds tr.hds.length).getD r 0 = x at hm
   unfold Z8 at hm
   obtain ⟨h1, h2⟩ := List.mem_filter.1 hm
   have h1 := List.mem_range.1 h1
   exact ⟨by omega, by omega, by simpa using h2⟩
  ·exact ⟨-1, d7, .inr ⟨by omega, true, d7, so, .inl ⟨rfl, rfl, rfl⟩⟩, hd7, .inl rfl⟩
theorem zIV (d : Dice) (hd0 : DOk d) (tr : Trd) (st wd rw_ : Int) (hst : 1 ≤ st ∧ st ≤ 3) (hh : tr.hds.length ≤ 1000) (nm : Str) (R P : List AV) (nr np : Nat) : ∃ (p : Per) (d' : Dice),
  zSx prog 25 [.ptr 0 0, .agg [iV st, iV wd, iV rw_, x8 tr.cls, x9 tr.hds, .own 1 2 0 nr, .own 2 5 0 np], sV nm] [y4 d, .row 2 R, .row 5 P] p.enc [y4 d', .row 2 R, .row 5 P] ∧ PerM tr st p ∧ p.name = nm ∧ DOk d' := by
 obtain ⟨s0, d1, c1, hs0, _, hd1⟩ := I8 d (st - 1) hd0 (by omega)
 have hs0 := hs0 (by omega)
 obtain ⟨x1, d2, c2, hx1, hd2⟩ := P2 d1 1 3 hd1 (by omega) (by omega)
 obtain ⟨x2, d3, c3, hx2, hd3⟩ := P2 d2 1 3 hd2 (by omega) (by omega)
 obtain ⟨x3, d4, c4, hx3, hd4⟩ := P2 d3 1 40 hd3 (by omega) (by omega)
 obtain ⟨no, d5, c5, hno, hd5⟩ := zCI d4 [x1, x2, x3] hd4 (by simp) (by simp)
 obtain ⟨bo, d6, c6, hd6⟩ := I7 d5 4 hd5 (by omega)
 obtain ⟨he, d8, hE8, hd8, hhe⟩ := zLr tr hh d6 hd6
 refine ⟨⟨nm, s0, no, he, bo⟩, d8, ?_, ⟨by show 0 ≤ (s0 : Int) ∧ (s0 : Int) < st; omega, by
  show 1 ≤ no ∧ no ≤ 40
  simp only [List.mem_cons, List.not_mem_nil, or_false] at hno
  rcases hno with rfl | rfl | rfl <;> omega, hhe⟩, rfl, hd8⟩
 clear hd0 hd1 hd2 hd3 hd4 hd5 hd6 hd8 hhe hno hx1 hx2 hx3
 obtain ⟨cls, hds⟩ := tr
 simp only at hE8 hh ⊢
 have hw1 : IntKind.i64.wrap (st - 1) = st - 1 := wrap_i64 (by omega) (by omega)
 have hsc := zJ7 hds
 have hhl := zEz hds
 have hh0 : Z8 hds 0 = [] := rfl
 refine z9 func25 rfl (fun E hE => ?_); simp only [go_sem, ntmps25]
 repeat' (first | (refine Qr rfl ?_; try intro _ hK; try simp only [go_sem, *]) | (refine Qi rfl rfl rfl rfl ?_ ?_ <;> (intro hb; (try intro _ hK); have hc := hb; try simp only [go_sem] at hc; simp only [go_sem, *])) | refine Qh rfl ?_ | (refine Qc rfl rfl ?_ ?_ <;> (intro hb; have hc := hb; try simp only [go_sem] at hc)) | refine z8 rfl ?_ | (with_reducible (show (∀ _ : AV, _ → _) ∧ _); refine wel ?_) | (refine x4 [0] [] (c1) (by simp) ?_ ?_ (by simp) (.inl rfl) ?_ ?_ ?_; (iterate 2 (focus (simp only [go_sem, *]; done))); (iterate 2 (focus (first | (simp; done) | (simp [go_sem]; done)))); simp only [go_sem, *]) | (refine x4 [0] [] (c2) (by simp) ?_ ?_ (by simp) (.inl rfl) ?_ ?_ ?_; (iterate 2 (focus (simp only [go_sem, *]; done))); (iterate 2 (focus (first | (simp; done) | (simp [go_sem]; done)))); simp only [go_sem, *]) | (refine x4 [0] [] (c3) (by simp) ?_ ?_ (by simp) (.inl rfl) ?_ ?_ ?_; (iterate 2 (focus (simp only [go_sem, *]; done))); (iterate 2 (focus (first | (simp; done) | (simp [go_sem]; done)))); simp only [go_sem, *]) | (refine x4 [0] [] (c4) (by simp) ?_ ?_ (by simp) (.inl rfl) ?_ ?_ ?_; (iterate 2 (focus (simp only [go_sem, *]; done))); (iterate 2 (focus (first | (simp; done) | (simp [go_sem]; done)))); simp only [go_sem, *]) | ((with_reducible apply And.intro); focus omega) | (refine z7 hK ?_; clear hK; simp only [go_sem, *]) | simp only [z6, z5, go_sem, *])
 all_goals try contradiction
 have hm3 : AV.list ([x1, x2, x3].map iV) = .list [iV x1, iV x2, iV x3] := rfl
 rw [hm3] at c5
 clear hm3
 refine R8 [0] [5] c5 rfl (by simp only [go_sem]) (by simp) ?_ ?_ (by simp [go_sem]) (by simp [go_sem]) ?_
 ·simp only [go_sem, *]
 ·simp only [go_sem, *]
 simp only [go_sem, w4, *]
 repeat' (first | (refine Qr rfl ?_; try intro _ hK; try simp only [go_sem, *]) | (refine Qi rfl rfl rfl rfl ?_ ?_ <;> (intro hb; (try intro _ hK); have hc := hb; try simp only [go_sem] at hc; simp only [go_sem, *])) | refine Qh rfl ?_ | (refine Qc rfl rfl ?_ ?_ <;> (intro hb; have hc := hb; try simp only [go_sem] at hc)) | refine z8 rfl ?_ | (with_reducible (show (∀ _ : AV, _ → _) ∧ _); refine wel ?_) | (refine j5 [0] (c6) ?_; simp only [go_sem, *]) | ((with_reducible apply And.intro); focus omega) | (refine z7 hK ?_; clear hK; simp only [go_sem, *]) | simp only [z6, z5, go_sem, *])
 all_goals try contradiction
 clear c1 c2 c3 c4 c5 c6
 refine y9 rfl (hds.length) (fun i => NoT i) 66 (fun i => [(9, iV i), (8, .own 6 1 0 (Z8 hds i).length), (7, .ptr 5 0), (6, .ptr 4 0), (4, .ptr 3 0), (0, .ptr 0 0)]) (fun i => [y4 d6, .row 2 R, .row 5 P, .box [iV st, iV wd, iV rw_, x8 cls, x9 hds, .own 1 2 0 nr, .own 2 5 0 np], .box [.any, .any, .any, .any, .any], .box [sV nm, iV s0, iV no, iV (-1), bV bo], .row 1 ((Z8 hds i).map pnV)]) [some 0, some 1, some 2, some 3, some 4, some 6, none] [] (by trivial) ?_; intro i hi hP
 clear hh0
 rcases Nat.lt_or_ge i hds.length with hi2 | hi2
 ·have hs1 := hsc i
  have hl1 := hhl i
  have hd1 : decide ((i : Int) < (hds.length : Int)) = true := by simp; omega
  have hd2 : decide (i < hds.length) = true := by simp; omega
  clear hsc hhl hE8
  by_cases hq : 0 ≤ (hds.getD i default).cls
  ·have hd3 : decide ((hds.getD i default).cls ≥ 0) = true := decide_eq_true hq
   have hd4 : decide (0 ≤ (hds.getD i default).cls) = true := decide_eq_true hq
   rw [if_pos hq] at hs1
   refine we1 trivial ?_
   clear hd1 hd2 hd3 hd4
   exact y3 (i' := i + 1) [some 0, some 1, some 2, some 3, some 4, some 5, some 8] [] (by trivial)
  ·have hd3 : decide ((hds.getD i default).cls ≥ 0) = false := decide_eq_false hq
   have hd4 : decide (0 ≤ (hds.getD i default).cls) = false := decide_eq_false hq
   rw [if_neg hq, List.append_nil] at hs1
   refine we1 trivial ?_
   clear hd1 hd2 hd3 hd4
   exact y3 (i' := i + 1) [some 0, some 1, some 2, some 3, some 4, some 5, some 6] [] (by trivial)
 ·obtain rfl : i = hds.length := by omega
  have hd1 : decide ((hds.length : Int) < (hds.length : Int)) = false := by simp
  have hd2 : decide (hds.length < hds.length) = false := by simp
  have hl1 := hhl hds.length
  clear hsc hhl
  generalize Z8 hds hds.length = H at *
  rcases hE8 with ⟨hz, e1, e2⟩ | ⟨hz, b, d7, s7, ⟨hb, e1, e2⟩ | ⟨hb, r, hr, s8, e1⟩⟩
  ·have hd5 : decide ((H.length : Int) > 0) = false := by rw [hz]; rfl
   have hd6 : decide (0 < H.length) = false := by rw [hz]; rfl
   subst e1 e2
   refine we1 trivial ?_
   refine ⟨[Per.enc ⟨nm, s0, no, -1, bo⟩], [some 0, some 1, some 2], [], ⟨(by simp only [Z2, go_sem]), trivial⟩, ?_⟩
   simp only [go_sem, *]
  ·have hd5 : decide ((H.length : Int) > 0) = true := decide_eq_true (by omega)
   have hd6 : decide (0 < H.length) = true := decide_eq_true hz
   subst e1 e2 hb
   refine we1 (own [0] (s7)) ?_
   refine ⟨[Per.enc ⟨nm, s0, no, -1, bo⟩], [some 0, some 1, some 2], [], ⟨(by simp only [Z2, go_sem]), trivial⟩, ?_⟩
   simp only [go_sem, *]
  ·have hd5 : decide ((H.length : Int) > 0) = true := decide_eq_true (by omega)
   have hd6 : decide (0 < H.length) = true := decide_eq_true hz
   have hw2 : IntKind.i64.wrap ((H.length : Int) - 1) = (H.length : Int) - 1 := wrap_i64 (by omega) (by omega)
   have hg : (H.map pnV).getD r AV.any = pnV (H.getD r 0) := by simp [List.getD, hr]
   subst e1 hb
   generalize H.getD r 0 = x at *
   refine we1 (cc (own [0] (s7)) (own [0] (s8))) ?_
   refine ⟨[Per.enc ⟨nm, s0, no, x, bo⟩], [some 0, some 1, some 2], [], ⟨(by simp only [Z2, go_sem]), trivial⟩, ?_⟩
   simp only [go_sem, *]
end Go.Abs

namespace Go.Abs
open Go Go.Proofs Tryz
variable [Cur]
def X4 (r : List Rule) (i : Nat) : List Rule := (r.take i).filter fun x => !decide (x.src = x.dst)
theorem zFx (r : List Rule) (i : Nat) : (X4 r i).length ≤ i := by
 unfold X4
 have := List.length_filter_le (fun x : Rule => !decide (x.src = x.dst)) (r.take i)
 simp only [List.length_take] at this
 omega
theorem zMB (r : List Rule) (i : Nat) (hi : i < r.length) : X4 r (i + 1) = X4 r i ++ if (r.getD i default).src = (r.getD i default).dst then [] else [r.getD i default] := by
 unfold X4
 have e : r.take (i + 1) = r.take i ++ [r.getD i default] := by
  rw [List.take_succ_eq_append_getElem hi]
  simp [List.getD, hi]
 rw [e, List.filter_append, List.filter_cons, List.filter_nil]
 by_cases h : (r.getD i default).src = (r.getD i default).dst <;> simp [h]
theorem zMA {r : List Rule} {i : Nat} {x : Rule} (h : x ∈ X4 r i) : x ∈ r := List.mem_of_mem_take (List.mem_filter.1 h).1
theorem zC2 {r : List Rule} (h : r9 r = 0) : r.length ≤ 4 ∧ ∀ x, x ∈ r → x.ok = true := by
 unfold r9 at h
 split at h
 ·omega
 split at h
 ·exact ⟨by omega, fun x hx => List.all_eq_true.1 (by assumption) x hx⟩
 ·omega
theorem zL9 {r : List Rule} {i : Nat} (h : r9 r = 0) : r9 (X4 r i) = 0 := by
 obtain ⟨h1, h2⟩ := zC2 h
 unfold r9
 have hl : (X4 r i).length ≤ r.length := by
  unfold X4
  have := List.length_filter_le (fun x : Rule => !decide (x.src = x.dst)) (r.take i)
  simp only [List.length_take] at this
  omega
 rw [if_neg (by omega), if_pos]
 exact List.all_eq_true.2 fun x hx => h2 x (zMA hx)
theorem zL8 {x : Rule} (h : x.ok = true) : x.src.length ≤ 2 ∧ x.dst.length ≤ 2 := by
 unfold Rule.ok v7 at h
 simp only [Bool.and_eq_true, decide_eq_true_eq] at h
 omega
theorem zG8 {r : List Rule} (hr : r9 r = 0) {a b : Str} (va : ValidN a) (vb : ValidN b) : F0 r a b = 0 := by
 unfold F0
 rcases zH6 hr va vb with h | h
 ·rw [h.1]; rfl
 ·rw [h.1]; rfl
def zUL (tr : Trd) (st wd rw_ : Int) (R : List Rule) (ns : List Str) (i : Nat) (s s' : List Per × Dice) : Prop :=
 ∃ (p : Per) (d1 : Dice), zSx prog 25 [.ptr 0 0, .agg [iV st, iV wd, iV rw_, x8 tr.cls, x9 tr.hds, .own 1 2 0 R.length, .own 2 5 0 i], sV (ns.getD i default)] [y4 s.2, .row 2 (R.map Rule.enc), .row 5 (s.1.map Per.enc)] p.enc [y4 d1, .row 2 (R.map Rule.enc), .row 5 (s.1.map Per.enc)] ∧
  ((i = 0 ∧ s' = (s.1 ++ [p], d1)) ∨ (0 < i ∧ ∃ (b : Bool) (d2 : Dice), zSx prog 26 [.ptr 0 0, iV 4] [y4 d1] (bV b) [y4 d2] ∧
   ((b = false ∧ s' = (s.1 ++ [p], d2)) ∨ (b = true ∧ ∃ (k : Nat) (d3 : Dice), k < i ∧ zSx prog 27 [.ptr 0 0, iV ((i : Int) - 1)] [y4 d2] (iV k) [y4 d3] ∧
    ∃ (b2 : Bool) (d4 : Dice), zSx prog 26 [.ptr 0 0, iV 2] [y4 d3] (bV b2) [y4 d4] ∧ s' = (s.1 ++ [if b2 = true then ⟨ns.getD i default, (s.1.getD k default).street, (s.1.getD k default).number, (s.1.getD k default).head, (s.1.getD k default).bold⟩ else s.1.getD k default], d4)))))
theorem zLq (tr : Trd) (st wd rw_ : Int) (hst : 1 ≤ st ∧ st ≤ 3) (hh : tr.hds.length ≤ 1000) (R : List Rule) (ns : List Str) (hv : ∀ s, s ∈ ns → ValidN s) (d : Dice) (hd : DOk d) (n : Nat) (hn : n ≤ ns.length) (h1000 : n ≤ 1000) :
  ∃ q : Nat → List Per × Dice, q 0 = ([], d) ∧ (∀ i, i < n → zUL tr st wd rw_ R ns i (q i) (q (i + 1))) ∧ ∀ i, i ≤ n → (q i).1.length = i ∧ (∀ p, p ∈ (q i).1 → PerM tr st p ∧ ValidN p.name) ∧ DOk (q i).2 :=
 zAY (S := List Per × Dice) n ([], d) (zUL tr st wd rw_ R ns) (fun i s => s.1.length = i ∧ (∀ p, p ∈ s.1 → PerM tr st p ∧ ValidN p.name) ∧ DOk s.2) ⟨rfl, fun p hp => (by cases hp), hd⟩ (fun i s hi ⟨h1, h2, h3⟩ => by
  have hx : ns.getD i default ∈ ns := j9 (by omega)
  obtain ⟨p, d1, sp, pm, pn, hd1⟩ := zIV s.2 h3 tr st wd rw_ hst hh (ns.getD i default) (R.map Rule.enc) (s.1.map Per.enc) R.length i
  have key : ∀ (p' : Per) (d' : Dice), zUL tr st wd rw_ R ns i s (s.1 ++ [p'], d') → PerM tr st p' ∧ ValidN p'.name → DOk d' → ∃ s', zUL tr st wd rw_ R ns i s s' ∧ s'.1.length = i + 1 ∧ (∀ p, p ∈ s'.1 → PerM tr st p ∧ ValidN p.name) ∧ DOk s'.2 := fun p' d' hR hp' hd' =>
   ⟨_, hR, by simp [h1], fun x hx => by
    have hx : x ∈ s.1 ++ [p'] := hx
    rcases List.mem_append.1 hx with hx | hx
    ·exact h2 x hx
    ·rw [List.mem_singleton.1 hx]; exact hp', hd'⟩
  have hp : PerM tr st p ∧ ValidN p.name := ⟨pm, by rw [pn]; exact hv _ hx⟩
  by_cases h0 : i = 0
  ·exact key p d1 ⟨p, d1, sp, .inl ⟨h0, rfl⟩⟩ hp hd1
  ·obtain ⟨b, d2, so, hd2⟩ := I7 d1 4 hd1 (by omega)
   cases b
   ·exact key p d2 ⟨p, d1, sp, .inr ⟨by omega, false, d2, so, .inl ⟨rfl, rfl⟩⟩⟩ hp hd2
   ·obtain ⟨k, d3, s3, hk, _, hd3⟩ := I8 d2 ((i : Int) - 1) hd2 (by omega)
    have hk := hk (by omega)
    obtain ⟨b2, d4, s4, hd4⟩ := I7 d3 2 hd3 (by omega)
    have hm : s.1.getD k default ∈ s.1 := j9 (by omega)
    have hmm := h2 _ hm
    refine key _ d4 ⟨p, d1, sp, .inr ⟨by omega, true, d2, so, .inr ⟨rfl, k, d3, by omega, s3, b2, d4, s4, rfl⟩⟩⟩ ?_ hd4
    cases b2
    ·exact hmm
    ·exact ⟨⟨hmm.1.st, hmm.1.no, hmm.1.hd⟩, hv _ hx⟩)
structure VolM (v : Vol) : Prop where
 st : 1 ≤ v.streets ∧ v.streets ≤ 2
 wd : 1 ≤ v.width ∧ v.width ≤ 13
 rw_ : 3 ≤ v.rows ∧ v.rows ≤ 8
 tr : b8 v.tr = 0
 also : ∀ h, h ∈ v.tr.hds → h.also.length ≤ 4294967296
 rl : r9 v.rules = 0
 pl : v.people.length ≤ 6
 pe : ∀ p, p ∈ v.people → PerM v.tr v.streets p ∧ ValidN p.name
theorem zG5 : ValidN [97] := by
 rw [← checkN_zero]; decide
theorem PerM.err {v : Vol} (m : VolM v) {p : Per} (hp : PerM v.tr v.streets p) (hv : ValidN p.name) : K6 v p = 0 := by
 unfold K6
 have h1 := hp.st
 have h2 := hp.no
 have h3 := hp.hd
 rw [if_neg (by rw [checkN_zero.2 hv]; simp), if_neg (by rw [J6 (by omega) (by omega)]; simp), if_neg (by rw [J6 (by omega) (by omega)]; simp), if_neg (by rw [J6 (by omega) (by omega)]; simp), if_neg]
 rintro ⟨h4, h5⟩
 rcases h3 with h3 | ⟨_, _, h3⟩ <;> omega
theorem VolM.ok {v : Vol} (m : VolM v) : VolOK v where
 st := by have := m.st; omega
 wd := m.wd
 rw := m.rw_
 tr := m.tr
 also := m.also
 rl := by have := (zC2 m.rl).1; omega
 rs := fun x hx => by have := zL8 ((zC2 m.rl).2 x hx); omega
 ve := zG8 m.rl zG5 zG5
 pl := m.pl
 pe := fun p hp => PerM.err m (m.pe p hp).1 (m.pe p hp).2
end Go.Abs

