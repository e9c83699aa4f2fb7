/-
  WHAT THE PROOF STANDS ON, PART 5: contracts of the program's functions and the logic that they are proved in. No condition.
-/
import Derived.Test.YtoodnahaohmmkaaGreatDoorQBTC54
set_option maxRecDepth 100000
set_option maxHeartbeats 4000000
set_option linter.unnecessarySimpa false
set_option linter.unusedVariables false
set_option linter.unusedSimpArgs false
set_option linter.unusedSectionVars false
namespace Go.Abs
open Go Go.Proofs Tryz
attribute [local irreducible] q9 Hold y2
variable [Cur]
noncomputable def zFW : Code := sub [0, 1, 0, 1, 1, 1, 1] (W3 Tryz.f213)
noncomputable def B9 (fn : FuncId) : LoopK := ⟨fn, #[34], D2 zFW, D3 zFW, 45⟩
abbrev CS := List Str × Option (List Str)
structure ChainD where
 many : Int
 to : Str
 l : List Rule
 fnG : FuncId
 fnF : FuncId
noncomputable def Z7 (o : Nat) (D : ChainD) (chain : List Str) (S : CS) : List AObj :=
 [.loopo (B9 D.fnG) [(11, .ptr (o + 11) 0), (10, .ptr (o + 10) 0), (6, .ptr (o + 5) 0), (9, .ptr (o + 13) 0)] (some none), .box [iV D.many], .box [sV D.to], .box [.yld (o + 6)], .box [x4 D.l],
  .box [.fn 213 [.ptr (o + 1) 0, .ptr (o + 2) 0, .ptr (o + 3) 0, .ptr (o + 4) 0, .ptr (o + 5) 0]],
  .loopo (W6 D.fnF) [(3, .ptr (o + 7) 0), (6, .ptr (o + 8) 0), (7, .ptr (o + 9) 0)] (some none), .box [T8], .box [Q6 S.2], .box [bV S.2.isSome], .box [y4 chain], .box [.mp (o + 12)], .mapo (S.1.map zUX) (S.1.map fun _ => bV true), .box [bV false]]
structure UsesD where
 k : Str
 u : Str
 v : Str
 i : Nat
 j : Nat
 l : List Rule
 fnU : FuncId
abbrev zDP (u v : Str) : List AV := [.agg [sV u, sV v], .agg [sV v, sV u]]
noncomputable def zH3 : Code := sub [0, 1, 1, 0, 0, 1, 1, 0, 0, 1, 1, 0, 0, 1, 1, 0, 0, 1, 1] (W3 Tryz.f231)
noncomputable def zB3 (fn : FuncId) : LoopK := ⟨fn, #[37], D2 zH3, D3 zH3, 44⟩
noncomputable def K2 (D : ChainD) (chain : List Str) (U : UsesD) (S : CS) : List AObj :=
 .loopo (zB3 U.fnU) [(3, .ptr 15 0), (2, .ptr 16 0), (25, .own 17 2 0 2), (27, iV U.j), (26, iV 2), (11, iV U.i), (10, iV U.l.length), (9, x4 U.l)] (some none) :: (Z7 1 D chain S ++ [.box [.yld 1], .box [sV U.k], .row 2 (zDP U.u U.v)])
attribute [go_sem] Z7 K2
theorem zNa {k a b : Str} {i : Nat} (h : i ≤ k.length) : L5 k a b i = (if a.isPrefixOf (k.drop i) = true ∧ x6 (k.take i ++ b ++ k.drop (i + a.length)) 1 12 = true then [k.take i ++ b ++ k.drop (i + a.length)] else []) ++ L5 k a b (i + 1) := by
 unfold L5
 rw [show k.length + 1 - i = (k.length + 1 - (i + 1)) + 1 by omega, List.range'_succ, List.flatMap_cons]
theorem zNZ {k a b : Str} {i : Nat} (h : k.length < i) : L5 k a b i = [] := by
 unfold L5
 rw [show k.length + 1 - i = 0 by omega]; rfl
theorem zGg {a x : Str} (h : a.isPrefixOf x = true) : a.length ≤ x.length := (List.isPrefixOf_iff_prefix.1 h).length_le
theorem zP7 (D : ChainD) (chain : List Str) (U : UsesD) (zUb : CS → Prop) (step : CS → Str → CS)
  (hy : ∀ S s, zUb S → x6 s 1 12 = true → Y4 prog [sV s] (K2 D chain U S) (bV true) (K2 D chain U (step S s))) (hg : ∀ S s, zUb S → x6 s 1 12 = true → zUb (step S s))
  (k a b : Str) (hk1 : k.length ≤ 1000) (ha : a.length ≤ 1000) (hb1 : b.length ≤ 1000) (S0 : CS) (hS : zUb S0) :
  zUL prog 247 [.yld 0, .ptr 18 0, .ptr 19 0, .ptr 20 0] (K2 D chain U S0 ++ [.box [sV k], .box [sV a], .box [sV b]]) (.tup []) (K2 D chain U ((V2 k a b).foldl step S0) ++ [.box [sV k], .box [sV a], .box [sV b]]) := by
 obtain ⟨T, hT⟩ : ∃ T, (V2 k a b).foldl step S0 = T := ⟨_, rfl⟩
 rw [hT]
 have h0 : (L5 k a b 0).foldl step S0 = T := hT
 clear hT
 simp only [K2, Z7, List.cons_append, List.nil_append]
 refine z9 func247 rfl (fun E hE => ?_); simp only [go_sem, ntmps247]
 repeat' (first | (refine Qr rfl ?_; try intro _ hK; try simp only [go_sem, *]) | (refine Qi rfl rfl rfl rfl ?_ ?_ <;> (intro hb; (try intro _ hK); have hc := hb; try simp only [go_sem] at hc; simp only [go_sem, *])) | refine Qh rfl ?_ | (refine Qc rfl rfl ?_ ?_ <;> (intro hb; have hc := hb; try simp only [go_sem] at hc)) | refine z8 rfl ?_ | (refine Qb ?_ ?_; focus kernel_rfl) | ((with_reducible apply And.intro); focus omega) | (refine z7 hK ?_; clear hK; simp only [go_sem, *]) | simp only [z6, z5, go_sem, *])
 refine Q8 rfl (k.length + 1) (fun i (S : CS) => (L5 k a b i).foldl step S = T ∧ zUb S) 40 (fun i S => [(10, iV i), (9, iV ((k.length + 1 : Nat) : Int)), (0, .yld 0), (1, .ptr 18 0), (2, .ptr 19 0), (3, .ptr 20 0)]) (fun i S => K2 D chain U S ++ [.box [sV k], .box [sV a], .box [sV b]]) [some 0, some 1, some 2, some 3, some 4, some 5, some 6, some 7, some 8, some 9, some 10, some 11, some 12, some 13, some 14, some 15, some 16, some 17, some 18, some 19, some 20] [] (S0) (by exact ⟨h0, hS⟩) ?_; intro i S hi hP
 obtain ⟨hP, hG⟩ := hP
 by_cases hi2 : i ≤ k.length
 ·have hp := zOr (k.drop i) a (by simp; omega) (by omega)
  rw [zNa hi2] at hP
  by_cases q : a.isPrefixOf (k.drop i) = true
  ·rw [q] at hp
   have hle := zGg q
   have hil : i + a.length ≤ k.length := by simp at hle; omega
   have hwl : IntKind.i64.wrap ((i : Int) + (a.length : Int)) = ((i + a.length : Nat) : Int) := by rw [wrap_i64 (by omega) (by omega)]; omega
   obtain ⟨t, ht⟩ : ∃ t, k.take i ++ b ++ k.drop (i + a.length) = t := ⟨_, rfl⟩
   have htl : t.length ≤ 3000 := by rw [← ht]; simp; omega
   have sl := zBw t 1 12 (by omega)
   rw [ht] at hP
   by_cases ql : x6 t 1 12 = true
   ·rw [if_pos ⟨q, ql⟩] at hP
    have hstep := hP
    rw [List.foldl_append] at hstep
    have hyt := hy S t hG ql
    have hgt := hg S t hG ql
    rw [ql] at sl
    clear q hle hP hg hy
    repeat' (first | ((refine D6 5 rfl rfl rfl ?_; simp only [List.take_succ_cons, List.take_zero, List.drop_succ_cons, List.drop_zero])) | (refine Qr rfl ?_; try intro _ hK; try simp only [go_sem, *]) | (refine Qi rfl rfl rfl rfl ?_ ?_ <;> (intro hb; (try intro _ hK); have hc := hb; try simp only [go_sem] at hc; simp only [go_sem, *])) | refine Qh rfl ?_ | refine Qd rfl (by kernel_rfl) ?_ | (refine Qc rfl rfl ?_ ?_ <;> (intro hb; have hc := hb; try simp only [go_sem] at hc)) | refine z8 rfl ?_ | (refine Qb ?_ ?_; focus kernel_rfl) | ((first | refine y6 (hp) ?_ | refine y6 (sl) ?_); simp only [go_sem, *]) | ((with_reducible apply And.intro); focus omega) | (refine z7 hK ?_; clear hK; simp only [go_sem, *]) | simp only [z6, z5, go_sem, *])
    all_goals first | contradiction | omega | skip
    refine zCs rfl rfl (by simp only [go_sem]) ?_
    refine zBB [0, 1, 2, 3, 4, 5, 6, 7, 8, 9, 10, 11, 12, 13, 14, 15, 16, 17] [] hyt rfl rfl (by simp) (by simp only [go_sem]) (by simp only [go_sem]) (by simp) (.inl rfl) (by simp [go_sem]) (by simp [go_sem]) ?_
    simp only [go_sem]
    repeat' (first | (refine Qr rfl ?_; try intro _ hK; try simp only [go_sem, *]) | (refine Qi rfl rfl rfl rfl ?_ ?_ <;> (intro hb; (try intro _ hK); have hc := hb; try simp only [go_sem] at hc; simp only [go_sem, *])) | refine Qh rfl ?_ | refine Qd rfl (by kernel_rfl) ?_ | (refine Qc rfl rfl ?_ ?_ <;> (intro hb; have hc := hb; try simp only [go_sem] at hc)) | refine z8 rfl ?_ | (refine Qb ?_ ?_; focus kernel_rfl) | ((with_reducible apply And.intro); focus omega) | (refine z7 hK ?_; clear hK; simp only [go_sem, *]) | simp only [z6, z5, go_sem, *])
    all_goals first | contradiction | omega | skip
    exact r7 (i' := i + 1) [some 0, some 1, some 2, some 3, some 4, some 5, some 6, some 7, some 8, some 9, some 10, some 11, some 12, some 13, some 14, some 15, some 16, some 17, some 18, some 19, some 20] [] (step S t) (by exact ⟨hstep, hgt⟩)
   ·have ql2 : x6 t 1 12 = false := (Bool.not_eq_true _).mp ql
    rw [if_neg (fun h => ql h.2), List.nil_append] at hP
    rw [ql2] at sl
    clear q hle hg hy ql ql2
    repeat' (first | ((refine D6 5 rfl rfl rfl ?_; simp only [List.take_succ_cons, List.take_zero, List.drop_succ_cons, List.drop_zero])) | (refine Qr rfl ?_; try intro _ hK; try simp only [go_sem, *]) | (refine Qi rfl rfl rfl rfl ?_ ?_ <;> (intro hb; (try intro _ hK); have hc := hb; try simp only [go_sem] at hc; simp only [go_sem, *])) | refine Qh rfl ?_ | refine Qd rfl (by kernel_rfl) ?_ | (refine Qc rfl rfl ?_ ?_ <;> (intro hb; have hc := hb; try simp only [go_sem] at hc)) | refine z8 rfl ?_ | (refine Qb ?_ ?_; focus kernel_rfl) | ((first | refine y6 (hp) ?_ | refine y6 (sl) ?_); simp only [go_sem, *]) | ((with_reducible apply And.intro); focus omega) | (refine z7 hK ?_; clear hK; simp only [go_sem, *]) | simp only [z6, z5, go_sem, *])
    all_goals first | contradiction | omega | skip
    refine zCr rfl rfl (by simp only [go_sem]) ?_
    repeat' (first | (refine Qr rfl ?_; try intro _ hK; try simp only [go_sem, *]) | (refine Qi rfl rfl rfl rfl ?_ ?_ <;> (intro hb; (try intro _ hK); have hc := hb; try simp only [go_sem] at hc; simp only [go_sem, *])) | refine Qh rfl ?_ | refine Qd rfl (by kernel_rfl) ?_ | (refine Qc rfl rfl ?_ ?_ <;> (intro hb; have hc := hb; try simp only [go_sem] at hc)) | refine z8 rfl ?_ | (refine Qb ?_ ?_; focus kernel_rfl) | ((with_reducible apply And.intro); focus omega) | (refine z7 hK ?_; clear hK; simp only [go_sem, *]) | simp only [z6, z5, go_sem, *])
    all_goals first | contradiction | omega | skip
    exact r7 (i' := i + 1) [some 0, some 1, some 2, some 3, some 4, some 5, some 6, some 7, some 8, some 9, some 10, some 11, some 12, some 13, some 14, some 15, some 16, some 17, some 18, some 19, some 20] [] (S) (by exact ⟨hP, hG⟩)
  ·have q2 : a.isPrefixOf (k.drop i) = false := (Bool.not_eq_true _).mp q
   rw [if_neg (fun h => q h.1), List.nil_append] at hP
   rw [q2] at hp
   clear q q2
   repeat' (first | (refine Qr rfl ?_; try intro _ hK; try simp only [go_sem, *]) | (refine Qi rfl rfl rfl rfl ?_ ?_ <;> (intro hb; (try intro _ hK); have hc := hb; try simp only [go_sem] at hc; simp only [go_sem, *])) | refine Qh rfl ?_ | refine Qd rfl (by kernel_rfl) ?_ | (refine Qc rfl rfl ?_ ?_ <;> (intro hb; have hc := hb; try simp only [go_sem] at hc)) | refine z8 rfl ?_ | (refine Qb ?_ ?_; focus kernel_rfl) | (refine y6 (hp) ?_; simp only [go_sem, *]) | ((with_reducible apply And.intro); focus omega) | (refine z7 hK ?_; clear hK; simp only [go_sem, *]) | simp only [z6, z5, go_sem, *])
   all_goals first | contradiction | omega | skip
   exact r7 (i' := i + 1) [some 0, some 1, some 2, some 3, some 4, some 5, some 6, some 7, some 8, some 9, some 10, some 11, some 12, some 13, some 14, some 15, some 16, some 17, some 18, some 19, some 20] [] (S) (by exact ⟨hP, hG⟩)
 ·rw [zNZ (by omega)] at hP
  have hP : S = T := hP
  subst hP
  repeat' (first | (refine Qr rfl ?_; try intro _ hK; try simp only [go_sem, *]) | (refine Qi rfl rfl rfl rfl ?_ ?_ <;> (intro hb; (try intro _ hK); have hc := hb; try simp only [go_sem] at hc; simp only [go_sem, *])) | refine Qh rfl ?_ | refine Qd rfl (by kernel_rfl) ?_ | (refine Qc rfl rfl ?_ ?_ <;> (intro hb; have hc := hb; try simp only [go_sem] at hc)) | refine z8 rfl ?_ | (refine Qb ?_ ?_; focus kernel_rfl) | ((with_reducible apply And.intro); focus omega) | (refine z7 hK ?_; clear hK; simp only [go_sem, *]) | simp only [z6, z5, go_sem, *])
  all_goals first | contradiction | omega | skip
  refine ⟨[], [some 0, some 1, some 2, some 3, some 4, some 5, some 6, some 7, some 8, some 9, some 10, some 11, some 12, some 13, some 14, some 15, some 16, some 17, some 18, some 19, some 20], [], trivial, ?_⟩
  simp only [go_sem, Q9, *]
end Go.Abs

namespace Go.Abs
open Go Go.Proofs Tryz
attribute [local irreducible] q9 Hold y2
variable [Cur]
theorem zP6 (k a b : Str) : zUL prog 232 [sV k, sV a, sV b] [] (.fn 247 [.ptr 0 0, .ptr 1 0, .ptr 2 0]) [.box [sV k], .box [sV a], .box [sV b]] := by
 refine z9 func232 rfl (fun E hE => ?_); simp only [go_sem, ntmps232]
 refine wk1 trivial ?_
 refine ⟨[_], [some 0, some 1, some 2], [], ⟨rfl, trivial⟩, ?_⟩
 simp only [go_sem, *]
theorem zQI (k : Str) (l : List Rule) : zUL prog 215 [sV k, x4 l] [] (.fn 231 [.ptr 0 0, .ptr 1 0]) [.box [x4 l], .box [sV k]] := by
 refine z9 func215 rfl (fun E hE => ?_); simp only [go_sem, ntmps215]
 refine wk1 trivial ?_
 refine ⟨[_], [some 1, some 0], [], ⟨rfl, trivial⟩, ?_⟩
 simp only [go_sem, *]
theorem zRv (D : ChainD) (chain : List Str) (U : UsesD) (S S' : CS) (s : Str) (hyG : Y4 prog [sV s] (Z7 0 D chain S) (bV true) (Z7 0 D chain S')) : Y4 prog [sV s] (K2 D chain U S) (bV true) (K2 D chain U S') := by
 refine K3 (L := zB3 U.fnU) (env := [(3, .ptr 15 0), (2, .ptr 16 0), (25, .own 17 2 0 2), (27, iV U.j), (26, iV 2), (11, iV U.i), (10, iV U.l.length), (9, x4 U.l)]) (j := none) rfl rfl (fun E l hE => ?_)
 refine o8 rfl ?_
 simp only [zB3, X8, go_sem]
 repeat' (first | (refine Qr (ops := _ :: _) rfl ?_; try intro _ hK; try simp only [go_sem, *]) | (refine Qi rfl rfl rfl rfl ?_ ?_ <;> (intro hb; (try intro _ hK); have hc := hb; try simp only [go_sem] at hc; simp only [go_sem, *])) | (refine Qb ?_ ?_; focus kernel_rfl) | ((with_reducible apply And.intro); focus omega) | (refine z7 hK ?_; clear hK; simp only [go_sem, *]) | simp only [z6, z5, go_sem, *])
 refine w7 ?_
 refine ⟨by simp only [go_sem], ?_⟩
 refine L3 (id := 5) rfl ?_
 refine T2 rfl ?_
 refine zNU 2 rfl rfl rfl ?_
 simp only [List.take_succ_cons, List.take_zero, List.drop_succ_cons, List.drop_zero, go_sem]
 repeat' (first | (refine Qr (ops := _ :: _) rfl ?_; try intro _ hK; try simp only [go_sem, *]) | (refine Qi rfl rfl rfl rfl ?_ ?_ <;> (intro hb; (try intro _ hK); have hc := hb; try simp only [go_sem] at hc; simp only [go_sem, *])) | (refine Qb ?_ ?_; focus kernel_rfl) | ((with_reducible apply And.intro); focus omega) | (refine z7 hK ?_; clear hK; simp only [go_sem, *]) | simp only [z6, z5, go_sem, *])
 refine w7 ?_
 refine E6 rfl ?_
 refine ⟨by show 40 < 44; omega, ?_⟩
 simp only [go_sem]
 refine zBB [1, 2, 3, 4, 5, 6, 7, 8, 9, 10, 11, 12, 13, 14] [] hyG rfl rfl (by simp) (by simp only [go_sem]) (by simp only [go_sem]) (by simp) (.inl rfl) (by simp [go_sem]) (by simp [go_sem]) ?_
 simp only [go_sem]
 repeat' (first | (refine Qr (ops := _ :: _) rfl ?_; try intro _ hK; try simp only [go_sem, *]) | (refine Qi rfl rfl rfl rfl ?_ ?_ <;> (intro hb; (try intro _ hK); have hc := hb; try simp only [go_sem] at hc; simp only [go_sem, *])) | (refine Qb ?_ ?_; focus kernel_rfl) | ((with_reducible apply And.intro); focus omega) | (refine z7 hK ?_; clear hK; simp only [go_sem, *]) | simp only [z6, z5, go_sem, *])
 refine w7 ?_
 refine N4 (t := false) rfl (by simp only [go_sem]) (fun h => by cases h) (fun _ => ?_)
 refine zAJ rfl ?_
 simp only [z5, go_sem]
 refine ⟨rfl, [some 0, some 1, some 2, some 3, some 4, some 5, some 6, some 7, some 8, some 9, some 10, some 11, some 12, some 13, some 14, some 15, some 16, some 17], [], ?_⟩
 simp only [go_sem, *]
theorem zRN {l : List Rule} {k : Str} {i : Nat} (h : i < l.length) : Y3 (l.drop i) k = (V2 k (l.getD i default).src (l.getD i default).dst ++ V2 k (l.getD i default).dst (l.getD i default).src) ++ Y3 (l.drop (i + 1)) k := by
 rw [o5 h]; rfl
def zAF (k u v : Str) : Nat → List Str
 | 0 => V2 k u v ++ V2 k v u
 | 1 => V2 k v u
 | _ => []
theorem zNI (k u v : Str) {j : Nat} (h : j < 2) : ∃ x y : Str, ([.agg [sV u, sV v], .agg [sV v, sV u]] : List AV).getD j .any = .agg [sV x, sV y] ∧ zAF k u v j = V2 k x y ++ zAF k u v (j + 1) ∧ (x = u ∧ y = v ∨ x = v ∧ y = u) := by
 rcases (by omega : j = 0 ∨ j = 1) with rfl | rfl
 ·exact ⟨u, v, rfl, rfl, .inl ⟨rfl, rfl⟩⟩
 ·exact ⟨v, u, rfl, by simp [zAF], .inr ⟨rfl, rfl⟩⟩
theorem zFP {zUb : CS → Prop} {step : CS → Str → CS} (hg : ∀ S s, zUb S → x6 s 1 12 = true → zUb (step S s)) : ∀ (L : List Str) (S : CS), (∀ s, s ∈ L → x6 s 1 12 = true) → zUb S → zUb (L.foldl step S)
 | [], _, _, h => h
 | x :: r, S, hl, h => zFP hg r _ (fun s hs => hl s (by simp [hs])) (hg S x h (hl x (by simp)))
theorem zNb {k a b s : Str} (h : s ∈ V2 k a b) : x6 s 1 12 = true := by
 obtain ⟨_, _, _, h, _⟩ := mem_replacedN.1 h; exact h
theorem zQJ (D : ChainD) (chain : List Str) (zUb : CS → Prop) (step : CS → Str → CS)
    (hy : ∀ S s, zUb S → x6 s 1 12 = true → Y4 prog [sV s] (Z7 0 D chain S) (bV true) (Z7 0 D chain (step S s))) (hg : ∀ S s, zUb S → x6 s 1 12 = true → zUb (step S s))
    (k : Str) (l : List Rule) (hk1 : k.length ≤ 1000) (hl : l.length ≤ 1000) (hr : ∀ r, r ∈ l → r.src.length ≤ 1000 ∧ r.dst.length ≤ 1000) (S0 : CS) (hS : zUb S0) :
    zUL prog 231 [.yld 0, .ptr 14 0, .ptr 15 0] (Z7 0 D chain S0 ++ [.box [x4 l], .box [sV k]]) (.tup []) (Z7 0 D chain ((Y3 l k).foldl step S0) ++ [.box [x4 l], .box [sV k]]) := by
  obtain ⟨T, hT⟩ : ∃ T, (Y3 l k).foldl step S0 = T := ⟨_, rfl⟩
  rw [hT]
  have h0 : (Y3 (l.drop 0) k).foldl step S0 = T := hT
  clear hT
  simp only [Z7, List.cons_append, List.nil_append]
  refine z9 func231 rfl (fun E hE => ?_); simp only [go_sem, ntmps231]
  refine wk1 trivial ?_
  refine Q8 rfl (l.length) (fun i (S : CS) => (Y3 (l.drop i) k).foldl step S = T ∧ zUb S) 44 (fun i S => [(11, iV i), (10, iV l.length), (9, x4 l), (3, .ptr 16 0), (2, .ptr 15 0)]) (fun i S => Z7 0 D chain S ++ [.box [x4 l], .box [sV k], .box [.yld 0]]) [some 0, some 1, some 2, some 3, some 4, some 5, some 6, some 7, some 8, some 9, some 10, some 11, some 12, some 13, some 14, some 15, some 16] [] (S0) (by exact ⟨h0, hS⟩) ?_; intro i S hi hP
  obtain ⟨hP, hG⟩ := hP
  by_cases hi2 : i < l.length
  · have hrl := hr _ (u5 hi2)
    rw [zRN hi2] at hP
    generalize hsu : (l.getD i default).src = u at *
    generalize hsv : (l.getD i default).dst = v at *
    rw [List.foldl_append] at hP
    have hQ0 : (Y3 (l.drop (i + 1)) k).foldl step ((zAF k u v 0).foldl step S) = T := hP
    clear hP hr
    refine wk1 trivial ?_
    refine Q8 rfl (2) (fun j (S2 : CS) => (Y3 (l.drop (i + 1)) k).foldl step ((zAF k u v j).foldl step S2) = T ∧ zUb S2) 44 (fun j S2 => [(27, iV j), (26, iV 2), (25, .own 17 2 0 2), (11, iV i), (10, iV l.length), (9, x4 l), (3, .ptr 16 0), (2, .ptr 15 0)]) (fun j S2 => Z7 0 D chain S2 ++ [.box [x4 l], .box [sV k], .box [.yld 0], .row 2 (zDP u v)]) [some 0, some 1, some 2, some 3, some 4, some 5, some 6, some 7, some 8, some 9, some 10, some 11, some 12, some 13, some 14, some 15, some 16, some 18] [] (S) (by exact ⟨hQ0, hG⟩) ?_; intro j S2 hj hQ
    obtain ⟨hQ, hG2⟩ := hQ
    by_cases hj2 : j < 2
    · obtain ⟨x, y, hxy, hst, hlen⟩ := zNI k u v hj2
      rw [hst, List.foldl_append] at hQ
      have sr := zP6 k x y
      have hxl : x.length ≤ 1000 ∧ y.length ≤ 1000 := by
        rcases hlen with ⟨rfl, rfl⟩ | ⟨rfl, rfl⟩
        · exact hrl
        · exact ⟨hrl.2, hrl.1⟩
      have s1 := fun fn => zP7 D chain ⟨k, u, v, i, j, l, fn⟩ zUb step (fun S s h1 h2 => zRv D chain _ S _ s (hy S s h1 h2)) hg k x y hk1 hxl.1 hxl.2 S2 hG2
      have hG3 := zFP hg (V2 k x y) S2 (fun s hs => zNb hs) hG2
      obtain ⟨S3, hS3⟩ : ∃ S3, (V2 k x y).foldl step S2 = S3 := ⟨_, rfl⟩
      rw [hS3] at hQ hG3
      simp only [hS3] at s1
      clear hlen hst hS3 hy hg hrl hxl hG2
      repeat' (first | (refine Qr rfl ?_; try intro _ hK; try simp only [go_sem, *]) | refine Qh rfl ?_ | (refine Qc rfl rfl ?_ ?_ <;> (intro hb; have hc := hb; try simp only [go_sem] at hc)) | refine z8 rfl ?_ | ((with_reducible apply And.intro); focus omega) | (refine z7 hK ?_; clear hK; simp only [go_sem, *]) | simp only [z6, z5, go_sem, *])
      refine i3 sr ?_ (hu := by (intro j hj; simp only [List.length_cons, List.length_nil] at hj; (obtain rfl | rfl | rfl : j = 0 ∨ j = 1 ∨ j = 2 := by omega) <;> simp [go_sem]))
      simp only [go_sem, *]
      repeat' (first | (refine Qr rfl ?_; try intro _ hK; try simp only [go_sem, *]) | refine Qh rfl ?_ | (refine Qc rfl rfl ?_ ?_ <;> (intro hb; have hc := hb; try simp only [go_sem] at hc)) | refine z8 rfl ?_ | ((with_reducible apply And.intro); focus omega) | (refine z7 hK ?_; clear hK; simp only [go_sem, *]) | simp only [z6, z5, go_sem, *])
      refine X5 (N := 44) (env := [(36, .fn 247 [.ptr 18 0, .ptr 19 0, .ptr 20 0]), (27, iV j), (26, iV 2), (25, .own 17 2 0 2), (11, iV i), (10, iV l.length), (9, x4 l), (3, .ptr 16 0), (2, .ptr 15 0)]) (As := Z7 0 D chain S2 ++ [.box [x4 l], .box [sV k], .box [.yld 0], .row 2 (zDP u v), .box [sV k], .box [sV x], .box [sV y]]) [some 0, some 1, some 2, some 3, some 4, some 5, some 6, some 7, some 8, some 9, some 10, some 11, some 12, some 13, some 14, some 15, some 16, some 17, some 19, some 20, some 21] [] (by (simp only [Weak, go_sem, List.map_append, List.map_set, *] <;> (try simp (disch := omega) only [u6]) <;> (try simp) <;> (try omega))) ?_
      refine zAz (f := 247) (caps := [.ptr 18 0, .ptr 19 0, .ptr 20 0]) rfl (by simp only [go_sem]) (by kernel_rfl) (nx := 21) (by simp only [go_sem]) (fun fn => ⟨22, ?_⟩)
      refine x7 [21, 0, 1, 2, 3, 4, 5, 6, 7, 8, 9, 10, 11, 12, 13, 16, 15, 17, 18, 19, 20] [] (s1 fn) (by simp) (by simp only [go_sem]) ?_ (by simp) (.inl rfl) (by simp [go_sem]) (by simp [go_sem]) ?_
      · simp only [go_sem, *]
        rfl
      · simp only [go_sem, *]
        refine ⟨zB3 fn, [(3, .ptr 16 0), (2, .ptr 15 0), (25, .own 17 2 0 2), (27, iV j), (26, iV 2), (11, iV i), (10, iV l.length), (9, x4 l)], none, by simp only [go_sem], ?_⟩
        simp only [go_sem]
        refine wk1 trivial ?_
        all_goals first | contradiction | omega | skip
        exact r7 (i' := j + 1) [some 0, some 1, some 2, some 3, some 4, some 5, some 6, some 7, some 8, some 9, some 10, some 11, some 12, some 13, some 14, some 15, some 16, some 17] [] (S3) (by exact ⟨hQ, hG3⟩)
    · have e2 : zAF k u v j = [] := by
        rcases (by omega : j = 2) with rfl
        rfl
      rw [e2] at hQ
      have hQ : (Y3 (l.drop (i + 1)) k).foldl step S2 = T := hQ
      refine wk1 trivial ?_
      all_goals first | contradiction | omega | skip
      exact r7 (i' := i + 1) [some 0, some 1, some 2, some 3, some 4, some 5, some 6, some 7, some 8, some 9, some 10, some 11, some 12, some 13, some 14, some 15, some 16] [] (S2) (by exact ⟨hQ, hG2⟩)
  · have e : l.drop i = [] := Z5 (by omega)
    rw [e] at hP
    have hP : S = T := hP
    subst hP
    refine wk1 trivial ?_
    all_goals first | contradiction | omega | skip
    refine ⟨[], [some 0, some 1, some 2, some 3, some 4, some 5, some 6, some 7, some 8, some 9, some 10, some 11, some 12, some 13, some 14, some 15], [], trivial, ?_⟩
    simp only [go_sem, Q9, *]
end Go.Abs

namespace Go.Abs
open Go Go.Proofs Tryz
attribute [local irreducible] q9 Hold y2
variable [Cur]
noncomputable def W4 (o : Nat) (D : ChainD) (B : Option (List Str)) : List AObj :=
 [.box [iV D.many], .box [sV D.to], .box [.yld (o + 5)], .box [x4 D.l],
  .box [.fn 213 [.ptr o 0, .ptr (o + 1) 0, .ptr (o + 2) 0, .ptr (o + 3) 0, .ptr (o + 4) 0]],
  .loopo (W6 D.fnF) [(3, .ptr (o + 6) 0), (6, .ptr (o + 7) 0), (7, .ptr (o + 8) 0)] (some none), .box [T8], .box [Q6 B], .box [bV B.isSome]]
attribute [go_sem] W4
abbrev B8 (s : Str) (chain : List Str) : List AV := [sV s, y4 chain, .ptr 0 0, .ptr 1 0, .ptr 2 0, .ptr 3 0, .ptr 4 0]
theorem zRu (D : ChainD) (chain : List Str) (S : CS) (s : Str) (hm : ∀ x, x ∈ S.1 → x.length ≤ 1000) (hs : s.length ≤ 1000) (h : s ∈ S.1) :
  Y4 prog [sV s] (Z7 0 D chain S) (bV true) (Z7 0 D chain S) := by
 refine K3 (L := B9 D.fnG) (env := [(11, .ptr 11 0), (10, .ptr 10 0), (6, .ptr 5 0), (9, .ptr 13 0)]) (j := none) rfl rfl (fun E l hE => ?_)
 refine o8 rfl ?_
 simp only [B9, X8, go_sem]
 repeat' (first | (refine Qr (ops := _ :: _) rfl ?_; try intro _ hK; try simp only [go_sem, *]) | (refine Qi rfl rfl rfl rfl ?_ ?_ <;> (intro hb; (try intro _ hK); have hc := hb; try simp only [go_sem] at hc; simp only [go_sem, *])) | (refine Qb ?_ ?_; focus kernel_rfl) | ((with_reducible apply And.intro); focus omega) | (refine z7 hK ?_; clear hK; simp only [go_sem, *]) | simp only [z6, z5, go_sem, *])
 refine w7 ?_
 refine ⟨by simp only [go_sem], ?_⟩
 refine L3 (id := 1) rfl ?_
 refine T2 rfl ?_
 refine T2 rfl ?_
 refine o8 rfl ?_
 simp only [go_sem]
 repeat' (first | (refine Qr (ops := _ :: _) rfl ?_; try intro _ hK; try simp only [go_sem, *]) | (refine Qi rfl rfl rfl rfl ?_ ?_ <;> (intro hb; (try intro _ hK); have hc := hb; try simp only [go_sem] at hc; simp only [go_sem, *])) | (refine Qb ?_ ?_; focus kernel_rfl) | ((with_reducible apply And.intro); focus omega) | (refine z7 hK ?_; clear hK; simp only [go_sem, *]) | simp only [z6, z5, go_sem, *])
 refine zGC hm hs (by simp only [go_sem]) ?_
 simp only [go_sem, *]
 repeat' (first | (refine Qr (ops := _ :: _) rfl ?_; try intro _ hK; try simp only [go_sem, *]) | (refine Qi rfl rfl rfl rfl ?_ ?_ <;> (intro hb; (try intro _ hK); have hc := hb; try simp only [go_sem] at hc; simp only [go_sem, *])) | (refine Qb ?_ ?_; focus kernel_rfl) | ((with_reducible apply And.intro); focus omega) | (refine z7 hK ?_; clear hK; simp only [go_sem, *]) | simp only [z6, z5, go_sem, *])
 refine w7 ?_
 refine N4 (t := true) rfl (by simp only [go_sem]) (fun _ => ?_) (fun h => by cases h)
 refine zNT rfl ?_
 simp only [z6, z5, go_sem]
 refine ⟨rfl, [some 0, some 1, some 2, some 3, some 4, some 5, some 6, some 7, some 8, some 9, some 10, some 11, some 12, some 13], [], ?_⟩
 simp only [go_sem, *]
theorem zRt (D : ChainD) (chain : List Str) (S : CS) (B' : Option (List Str)) (s : Str) (hm : ∀ x, x ∈ S.1 → x.length ≤ 1000) (hs : s.length ≤ 1000) (h : s ∉ S.1)
  (sg : zUL prog 213 (B8 s chain) (W4 0 D S.2) (bV true) (W4 0 D B')) :
  Y4 prog [sV s] (Z7 0 D chain S) (bV true) (Z7 0 D chain (S.1 ++ [s], B')) := by
 have hca : y9 prog 213 = true := by kernel_rfl
 have hput : zU1 S.1 s = S.1 ++ [s] := by unfold zU1; rw [if_neg h]
 refine K3 (L := B9 D.fnG) (env := [(11, .ptr 11 0), (10, .ptr 10 0), (6, .ptr 5 0), (9, .ptr 13 0)]) (j := none) rfl rfl (fun E l hE => ?_)
 refine o8 rfl ?_
 simp only [B9, X8, go_sem]
 repeat' (first | (refine Qr (ops := _ :: _) rfl ?_; try intro _ hK; try simp only [go_sem, *]) | (refine Qi rfl rfl rfl rfl ?_ ?_ <;> (intro hb; (try intro _ hK); have hc := hb; try simp only [go_sem] at hc; simp only [go_sem, *])) | (refine Qb ?_ ?_; focus kernel_rfl) | ((with_reducible apply And.intro); focus omega) | (refine z7 hK ?_; clear hK; simp only [go_sem, *]) | simp only [z6, z5, go_sem, *])
 refine w7 ?_
 refine ⟨by simp only [go_sem], ?_⟩
 refine L3 (id := 1) rfl ?_
 refine T2 rfl ?_
 refine T2 rfl ?_
 refine o8 rfl ?_
 try simp only [go_sem]
 repeat' (first | (refine Qr (ops := _ :: _) rfl ?_; try intro _ hK; try simp only [go_sem, *]) | (refine Qi rfl rfl rfl rfl ?_ ?_ <;> (intro hb; (try intro _ hK); have hc := hb; try simp only [go_sem] at hc; simp only [go_sem, *])) | (refine Qb ?_ ?_; focus kernel_rfl) | ((with_reducible apply And.intro); focus omega) | (refine z7 hK ?_; clear hK; simp only [go_sem, *]) | simp only [z6, z5, go_sem, *])
 refine zGC hm hs (by simp only [go_sem]) ?_
 simp only [go_sem, *]
 repeat' (first | (refine Qr (ops := _ :: _) rfl ?_; try intro _ hK; try simp only [go_sem, *]) | (refine Qi rfl rfl rfl rfl ?_ ?_ <;> (intro hb; (try intro _ hK); have hc := hb; try simp only [go_sem] at hc; simp only [go_sem, *])) | (refine Qb ?_ ?_; focus kernel_rfl) | ((with_reducible apply And.intro); focus omega) | (refine z7 hK ?_; clear hK; simp only [go_sem, *]) | simp only [z6, z5, go_sem, *])
 refine w7 ?_
 refine N4 (t := false) rfl (by simp only [go_sem]) (fun h => by cases h) (fun _ => ?_)
 refine zAJ rfl ?_
 refine T2 rfl ?_
 refine o8 rfl ?_
 try simp only [go_sem]
 repeat' (first | (refine Qr (ops := _ :: _) rfl ?_; try intro _ hK; try simp only [go_sem, *]) | (refine Qi rfl rfl rfl rfl ?_ ?_ <;> (intro hb; (try intro _ hK); have hc := hb; try simp only [go_sem] at hc; simp only [go_sem, *])) | (refine Qb ?_ ?_; focus kernel_rfl) | ((with_reducible apply And.intro); focus omega) | (refine z7 hK ?_; clear hK; simp only [go_sem, *]) | simp only [z6, z5, go_sem, *])
 refine zD4 hm hs (by simp only [go_sem]) ?_
 rw [hput]
 repeat' (first | (refine Qr (ops := _ :: _) rfl ?_; try intro _ hK; try simp only [go_sem, *]) | (refine Qi rfl rfl rfl rfl ?_ ?_ <;> (intro hb; (try intro _ hK); have hc := hb; try simp only [go_sem] at hc; simp only [go_sem, *])) | (refine Qb ?_ ?_; focus kernel_rfl) | ((with_reducible apply And.intro); focus omega) | (refine z7 hK ?_; clear hK; simp only [go_sem, *]) | simp only [z6, z5, go_sem, *])
 refine w7 ?_
 refine T2 rfl ?_
 refine o8 rfl ?_
 try simp only [go_sem]
 repeat' (first | (refine Qr (ops := _ :: _) rfl ?_; try intro _ hK; try simp only [go_sem, *]) | (refine Qi rfl rfl rfl rfl ?_ ?_ <;> (intro hb; (try intro _ hK); have hc := hb; try simp only [go_sem] at hc; simp only [go_sem, *])) | (refine Qb ?_ ?_; focus kernel_rfl) | ((with_reducible apply And.intro); focus omega) | (refine z7 hK ?_; clear hK; simp only [go_sem, *]) | simp only [z6, z5, go_sem, *])
 refine u9 [1, 2, 3, 4, 5, 6, 7, 8, 9] sg ?_
 simp only [go_sem, *]
 repeat' (first | (refine Qr (ops := _ :: _) rfl ?_; try intro _ hK; try simp only [go_sem, *]) | (refine Qi rfl rfl rfl rfl ?_ ?_ <;> (intro hb; (try intro _ hK); have hc := hb; try simp only [go_sem] at hc; simp only [go_sem, *])) | (refine Qb ?_ ?_; focus kernel_rfl) | ((with_reducible apply And.intro); focus omega) | (refine z7 hK ?_; clear hK; simp only [go_sem, *]) | simp only [z6, z5, go_sem, *])
 refine w7 ?_
 refine N4 (t := false) rfl (by simp only [go_sem]) (fun h => by cases h) (fun _ => ?_)
 refine zAJ rfl ?_
 simp only [z5, go_sem]
 refine ⟨rfl, [some 0, some 1, some 2, some 3, some 4, some 5, some 6, some 7, some 8, some 9, some 10, some 11, some 12, some 13], [], ?_⟩
 simp only [go_sem, *]
end Go.Abs

namespace Go.Abs
open Go Go.Proofs Tryz
attribute [local irreducible] q9 Hold y2
variable [Cur]
theorem B5 {α : Type} {cmp : α → α → Int} : ∀ {L : List α} {B : Option α} {b : α}, y7 cmp B L = some b → B = some b ∨ b ∈ L
 | [], B, b, h => by cases B <;> exact .inl h
 | x :: r, none, b, h => by
  rw [y7] at h
  rcases B5 h with h | h
  ·cases h; exact .inr (by simp)
  ·exact .inr (by simp [h])
 | x :: r, some y, b, h => by
  rw [y7] at h
  split at h
  ·rcases B5 h with h | h
   ·cases h; exact .inr (by simp)
   ·exact .inr (by simp [h])
  ·rcases B5 h with h | h
   ·exact .inl h
   ·exact .inr (by simp [h])
@[go_sem] theorem zUF (pre : List Str) (x : AV) : List.take (pre.length + 1) (List.map sV pre ++ [x]) = List.map sV pre ++ [x] := List.take_of_length_le (by simp)
def K4 (B : Option (List Str)) : Prop := ∀ b, B = some b → b.length ≤ 1000
theorem zJA {l : List Rule} {to now : Str} {n : Nat} {pre : List Str} {B : Option (List Str)} (h : pre.length + n ≤ 900) (hB : K4 B) : K4 (y7 zUP B (i4 l to n now pre)) := fun b hb => by
 rcases B5 hb with h1 | h1
 ·exact hB b h1
 ·obtain ⟨d, rfl, hd⟩ := mem_chainsN.1 h1
  have := zEc hd
  rw [List.length_append]; omega
theorem zPf (D : ChainD) (now : Str) (pre : List Str) (B : Option (List Str)) (hm : (pre.length : Int) = D.many) (hp : pre.length ≤ 100) (q : ¬ now = D.to) :
  zUL prog 213 (B8 now pre) (W4 0 D B) (bV true) (W4 0 D B) := by
 have sc := zDh pre (by omega)
 have g : D.many < ((pre.length + 1 : Nat) : Int) := by omega
 have hq : (now == D.to) = false := by simpa using q
 refine z9 func213 rfl (fun E hE => ?_); simp only [go_sem, ntmps213]
 repeat' (first | (refine Qr rfl ?_; try intro _ hK; try simp only [go_sem, *]) | (refine Qi rfl rfl rfl rfl ?_ ?_ <;> (intro hb; (try intro _ hK); have hc := hb; try simp only [go_sem] at hc; simp only [go_sem, *])) | refine Qh rfl ?_ | (refine i3 (sc) ?_; simp only [go_sem, *]) | ((with_reducible apply And.intro); focus omega) | (refine z7 hK ?_; clear hK; simp only [go_sem, *]) | simp only [z6, z5, go_sem, *])
 refine zBr rfl ⟨true, by simp only [go_sem, *], fun _ => ?_, fun e => by cases e⟩
 refine zBs rfl ?_
 refine D6 6 rfl rfl rfl ?_
 simp only [List.take_succ_cons, List.take_zero, List.drop_succ_cons, List.drop_zero]
 repeat' (first | (refine Qr (ops := _ :: _) rfl ?_; try intro _ hK; try simp only [go_sem, *]) | (refine Qi rfl rfl rfl rfl ?_ ?_ <;> (intro hb; (try intro _ hK); have hc := hb; try simp only [go_sem] at hc; simp only [go_sem, *])) | ((with_reducible apply And.intro); focus omega) | (refine z7 hK ?_; clear hK; simp only [go_sem, *]) | simp only [z6, z5, go_sem, *])
 refine w7 ?_
 refine zCr rfl rfl (by simp only [go_sem, *]) ?_
 refine ⟨by show 28 < 45; omega, ?_⟩
 simp only [go_sem, *]
 refine wk1 trivial ?_
 refine ⟨[bV true], [some 0, some 1, some 2, some 3, some 4, some 5, some 6, some 7, some 8], [], ⟨by simp only [W0, go_sem], trivial⟩, ?_⟩
 simp only [go_sem, *]
theorem zPg (D : ChainD) (now : Str) (pre : List Str) (B : Option (List Str)) (hm : (pre.length : Int) = D.many) (hp : pre.length ≤ 100) (q : now = D.to) (hB : K4 B) :
  zUL prog 213 (B8 now pre) (W4 0 D B) (bV true) (W4 0 D (y7 zUP B [pre ++ [now]])) := by
 have sc := zDh pre (by omega)
 have g : D.many < ((pre.length + 1 : Nat) : Int) := by omega
 have hq : (now == D.to) = true := by simpa using q
 have sy := zRk D.fnF B (pre ++ [now]) hB (by simp; omega)
 generalize y7 zUP B [pre ++ [now]] = B' at *
 clear q
 refine z9 func213 rfl (fun E hE => ?_); simp only [go_sem, ntmps213]
 repeat' (first | (refine Qr rfl ?_; try intro _ hK; try simp only [go_sem, *]) | (refine Qi rfl rfl rfl rfl ?_ ?_ <;> (intro hb; (try intro _ hK); have hc := hb; try simp only [go_sem] at hc; simp only [go_sem, *])) | refine Qh rfl ?_ | (refine i3 (sc) ?_; simp only [go_sem, *]) | ((with_reducible apply And.intro); focus omega) | (refine z7 hK ?_; clear hK; simp only [go_sem, *]) | simp only [z6, z5, go_sem, *])
 refine X5 (N := 45) (env := [(21, bV true), (0, sV now), (3, .ptr 1 0), (4, .ptr 2 0), (10, .ptr 10 0), (9, .ptr 9 0)]) (As := W4 0 D B ++ [.box [bV false], .box [y4 (pre ++ [now])]]) [some 0, some 1, some 2, some 3, some 4, some 5, some 6, some 7, some 8, some 9, some 13] [12] (by (simp only [Weak, go_sem, List.map_append, List.map_set, *] <;> (try simp (disch := omega) only [u6]) <;> (try simp) <;> (try omega))) ?_
 refine zBr rfl ⟨true, by simp only [go_sem, *], fun _ => ?_, fun e => by cases e⟩
 refine zBs rfl ?_
 refine D6 6 rfl rfl rfl ?_
 simp only [List.take_succ_cons, List.take_zero, List.drop_succ_cons, List.drop_zero, go_sem]
 repeat' (first | (refine Qr (ops := _ :: _) rfl ?_; try intro _ hK; try simp only [go_sem, *]) | (refine Qi rfl rfl rfl rfl ?_ ?_ <;> (intro hb; (try intro _ hK); have hc := hb; try simp only [go_sem] at hc; simp only [go_sem, *])) | ((with_reducible apply And.intro); focus omega) | (refine z7 hK ?_; clear hK; simp only [go_sem, *]) | simp only [z6, z5, go_sem, *])
 refine w7 ?_
 refine zCs rfl rfl (by simp only [go_sem, *]) ?_
 refine ⟨by show 28 < 45; omega, ?_⟩
 simp only [go_sem]
 refine zBB [5, 6, 7, 8] [] sy rfl rfl (by simp) (by simp only [go_sem]) (by simp only [go_sem]) (by simp) (.inl rfl) (by simp [go_sem]) (by simp [go_sem]) ?_
 simp only [go_sem]
 refine wk1 trivial ?_
 refine ⟨[bV true], [some 0, some 1, some 2, some 3, some 4, some 5, some 6, some 7, some 8], [], ⟨by simp only [W0, go_sem], trivial⟩, ?_⟩
 simp only [go_sem, *]
theorem zPh (D : ChainD) (n : Nat) (IH : ∀ (D : ChainD) (now : Str) (pre : List Str) (B : Option (List Str)), (pre.length : Int) + n = D.many → pre.length + n ≤ 100 → x6 now 1 12 = true → K4 B → D.l.length ≤ 1000 → (∀ r, r ∈ D.l → r.src.length ≤ 1000 ∧ r.dst.length ≤ 1000) →
      zUL prog 213 (B8 now pre) (W4 0 D B) (bV true) (W4 0 D (y7 zUP B (i4 D.l D.to n now pre))))
    (now : Str) (pre : List Str) (B : Option (List Str)) (hm : (pre.length : Int) + (n + 1 : Nat) = D.many) (hp : pre.length + (n + 1) ≤ 100) (hn : x6 now 1 12 = true) (hB : K4 B) (hl : D.l.length ≤ 1000) (hr : ∀ r, r ∈ D.l → r.src.length ≤ 1000 ∧ r.dst.length ≤ 1000) :
    zUL prog 213 (B8 now pre) (W4 0 D B) (bV true) (W4 0 D (y7 zUP B (i4 D.l D.to (n + 1) now pre))) := by
  have sc := zDh pre (by omega)
  have su := zQI now D.l
  have g : ¬ D.many < ((pre.length + 1 : Nat) : Int) := by omega
  have hnl : now.length ≤ 1000 := by
    unfold x6 at hn
    simp only [Bool.and_eq_true, decide_eq_true_eq] at hn
    omega
  have s1 : ∀ fn, zUL prog 231 [.yld 0, .ptr 14 0, .ptr 15 0] (Z7 0 { D with fnG := fn } (pre ++ [now]) ([], B) ++ [.box [x4 D.l], .box [sV now]]) (.tup []) (Z7 0 { D with fnG := fn } (pre ++ [now]) ((Y3 D.l now).foldl (R2 D.l D.to n (pre ++ [now])) ([], B)) ++ [.box [x4 D.l], .box [sV now]]) := fun fn =>
    zQJ { D with fnG := fn } (pre ++ [now]) (fun S => (∀ x, x ∈ S.1 → x.length ≤ 1000) ∧ K4 S.2) (R2 D.l D.to n (pre ++ [now]))
      (fun S s hG hs => by
        have hsl : s.length ≤ 1000 := by
          unfold x6 at hs
          simp only [Bool.and_eq_true, decide_eq_true_eq] at hs
          omega
        by_cases h : s ∈ S.1
        · have e : R2 D.l D.to n (pre ++ [now]) S s = S := by unfold R2; rw [if_pos h]
          rw [e]; exact zRu _ _ S s hG.1 hsl h
        · have e : R2 D.l D.to n (pre ++ [now]) S s = (S.1 ++ [s], y7 zUP S.2 (i4 D.l D.to n s (pre ++ [now]))) := by unfold R2; rw [if_neg h]
          rw [e]
          exact zRt _ _ S _ s hG.1 hsl h (IH { D with fnG := fn } s (pre ++ [now]) S.2 (by simp; omega) (by simp; omega) hs hG.2 hl hr))
      (fun S s hG hs => by
        have hsl : s.length ≤ 1000 := by
          unfold x6 at hs
          simp only [Bool.and_eq_true, decide_eq_true_eq] at hs
          omega
        unfold R2
        split
        · exact hG
        · refine ⟨fun x hx => ?_, zJA (by simp; omega) hG.2⟩
          rcases List.mem_append.1 hx with hx | hx
          · exact hG.1 x hx
          · rw [List.mem_singleton.1 hx]; exact hsl)
      now D.l hnl hl hr ([], B) ⟨fun x hx => (by cases hx), hB⟩
  have e := zLC D.l D.to n now pre B
  obtain ⟨S', hS'⟩ : ∃ S', (Y3 D.l now).foldl (R2 D.l D.to n (pre ++ [now])) ([], B) = S' := ⟨_, rfl⟩
  rw [hS'] at e
  simp only [hS'] at s1
  rw [← e]
  clear e hS' IH hn hnl hr hB
  refine z9 func213 rfl (fun E hE => ?_); simp only [go_sem, ntmps213]
  repeat' (first | (refine Qr rfl ?_; try intro _ hK; try simp only [go_sem, *]) | (refine Qi rfl rfl rfl rfl ?_ ?_ <;> (intro hb; (try intro _ hK); have hc := hb; try simp only [go_sem] at hc; simp only [go_sem, *])) | refine Qh rfl ?_ | (refine i3 (sc) ?_; simp only [go_sem, *]) | ((with_reducible apply And.intro); focus omega) | (refine z7 hK ?_; clear hK; simp only [go_sem, *]) | simp only [z6, z5, go_sem, *])
  refine zBr rfl ⟨false, by simp only [go_sem, *], fun e => (by cases e), fun _ => ?_⟩
  repeat' (first | (refine Qr rfl ?_; try intro _ hK; try simp only [go_sem, *]) | (refine Qi rfl rfl rfl rfl ?_ ?_ <;> (intro hb; (try intro _ hK); have hc := hb; try simp only [go_sem] at hc; simp only [go_sem, *])) | refine Qh rfl ?_ | (refine Qc rfl rfl ?_ ?_ <;> (intro hb; have hc := hb; try simp only [go_sem] at hc)) | refine z8 rfl ?_ | ((with_reducible apply And.intro); focus omega) | (refine z7 hK ?_; clear hK; simp only [go_sem, *]) | simp only [z6, z5, go_sem, *])
  refine i3 su ?_ (hu := by (intro j hj; simp only [List.length_cons, List.length_nil] at hj; (obtain rfl | rfl : j = 0 ∨ j = 1 := by omega) <;> simp [go_sem]))
  simp only [go_sem, *]
  repeat' (first | (refine Qr rfl ?_; try intro _ hK; try simp only [go_sem, *]) | (refine Qi rfl rfl rfl rfl ?_ ?_ <;> (intro hb; (try intro _ hK); have hc := hb; try simp only [go_sem] at hc; simp only [go_sem, *])) | refine Qh rfl ?_ | (refine Qc rfl rfl ?_ ?_ <;> (intro hb; have hc := hb; try simp only [go_sem] at hc)) | refine z8 rfl ?_ | ((with_reducible apply And.intro); focus omega) | (refine z7 hK ?_; clear hK; simp only [go_sem, *]) | simp only [z6, z5, go_sem, *])
  refine X5 (N := 45) (env := [(33, .fn 231 [.ptr 13 0, .ptr 14 0]), (11, .ptr 11 0), (10, .ptr 10 0), (6, .ptr 4 0), (9, .ptr 9 0)]) (As := W4 0 D B ++ [.box [bV false], .box [y4 (pre ++ [now])], .box [.mp 12], .mapo [] [], .box [x4 D.l], .box [sV now]]) [some 0, some 1, some 2, some 3, some 4, some 5, some 6, some 7, some 8, some 9, some 13, some 15, some 14, some 16, some 17] [12] (by (simp only [Weak, go_sem, List.map_append, List.map_set, *] <;> (try simp (disch := omega) only [u6]) <;> (try simp) <;> (try omega))) ?_
  refine zAz (f := 231) (caps := [.ptr 13 0, .ptr 14 0]) rfl (by simp only [go_sem]) (by kernel_rfl) (nx := 15) (by simp only [go_sem]) (fun fn => ⟨16, ?_⟩)
  refine x7 [15, 0, 1, 2, 3, 4, 5, 6, 7, 8, 10, 11, 12, 9, 13, 14] [] (s1 fn) (by simp) (by simp only [go_sem]) ?_ (by simp) (.inl rfl) (by simp [go_sem]) (by simp [go_sem]) ?_
  · simp only [go_sem, *]
    rfl
  · simp only [go_sem, *]
    refine ⟨B9 fn, [(11, .ptr 11 0), (10, .ptr 10 0), (6, .ptr 4 0), (9, .ptr 9 0)], none, by simp only [go_sem], ?_⟩
    simp only [go_sem]
    refine wk1 trivial ?_
    refine ⟨[bV true], [some 0, some 1, some 2, some 3, some 4, some 5, some 6, some 7, some 8], [], ⟨by simp only [W0, go_sem], trivial⟩, ?_⟩
    simp only [go_sem, *]
end Go.Abs

namespace Go.Abs
open Go Go.Proofs Tryz
attribute [local irreducible] q9 Hold y2
variable [Cur]
theorem zKY {α : Type} (cmp : α → α → Int) (B : Option α) : y7 cmp B [] = B := by cases B <;> rfl
theorem zHO : ∀ (n : Nat) (D : ChainD) (now : Str) (pre : List Str) (B : Option (List Str)), (pre.length : Int) + n = D.many → pre.length + n ≤ 100 → x6 now 1 12 = true → K4 B → D.l.length ≤ 1000 → (∀ r, r ∈ D.l → r.src.length ≤ 1000 ∧ r.dst.length ≤ 1000) →
  zUL prog 213 (B8 now pre) (W4 0 D B) (bV true) (W4 0 D (y7 zUP B (i4 D.l D.to n now pre)))
 | 0, D, now, pre, B, hm, hp, hn, hB, hl, hr => by
  rw [i4]
  by_cases q : now = D.to
  ·rw [if_pos q]; exact zPg D now pre B (by simpa using hm) (by omega) q hB
  ·rw [if_neg q, zKY]; exact zPf D now pre B (by simpa using hm) (by omega) q
 | n + 1, D, now, pre, B, hm, hp, hn, hB, hl, hr => zPh D n (zHO n) now pre B hm hp hn hB hl hr
theorem zPQ (D : ChainD) (k : Str) (n : Nat) (B : Option (List Str)) (hm : (n : Int) = D.many) (hp : n ≤ 100) (hk1 : x6 k 1 12 = true) (hB : K4 B) (hl : D.l.length ≤ 1000) (hr : ∀ r, r ∈ D.l → r.src.length ≤ 1000 ∧ r.dst.length ≤ 1000) :
  zUL prog 212 [.yld 0, .ptr 4 0, .ptr 5 0, .ptr 6 0, .ptr 7 0] [.loopo (W6 D.fnF) [(3, .ptr 1 0), (6, .ptr 2 0), (7, .ptr 3 0)] (some none), .box [T8], .box [Q6 B], .box [bV B.isSome], .box [iV D.many], .box [sV D.to], .box [x4 D.l], .box [sV k]] (.tup [])
   [.loopo (W6 D.fnF) [(3, .ptr 1 0), (6, .ptr 2 0), (7, .ptr 3 0)] (some none), .box [T8], .box [Q6 (y7 zUP B (i4 D.l D.to n k []))], .box [bV (y7 zUP B (i4 D.l D.to n k [])).isSome], .box [iV D.many], .box [sV D.to], .box [x4 D.l], .box [sV k]] := by
 have hca : y9 prog 213 = true := by kernel_rfl
 have sg := zHO n D k [] B (by simpa using hm) (by simpa using hp) hk1 hB hl hr
 generalize y7 zUP B (i4 D.l D.to n k []) = B' at *
 clear hr
 refine z9 func212 rfl (fun E hE => ?_); simp only [go_sem, ntmps212]
 repeat' (first | (refine Qr rfl ?_; try intro _ hK; try simp only [go_sem, *]) | refine Qh rfl ?_ | (refine Qc rfl rfl ?_ ?_ <;> (intro hb; have hc := hb; try simp only [go_sem] at hc)) | refine z8 rfl ?_ | ((with_reducible apply And.intro); focus omega) | (refine z7 hK ?_; clear hK; simp only [go_sem, *]) | simp only [z6, z5, go_sem, *])
 refine u9 [4, 5, 8, 6, 9, 0, 1, 2, 3] sg ?_
 simp only [go_sem, *]
 repeat' (first | (refine Qr rfl ?_; try intro _ hK; try simp only [go_sem, *]) | refine Qh rfl ?_ | (refine Qc rfl rfl ?_ ?_ <;> (intro hb; have hc := hb; try simp only [go_sem] at hc)) | refine z8 rfl ?_ | ((with_reducible apply And.intro); focus omega) | (refine z7 hK ?_; clear hK; simp only [go_sem, *]) | simp only [z6, z5, go_sem, *])
 refine ⟨[], [some 0, some 1, some 2, some 3, some 4, some 5, some 6, some 7], [], trivial, ?_⟩
 simp only [go_sem, Q9, *]
theorem zPP (k : Str) (l : List Rule) (to : Str) (many : Int) : zUL prog 188 [sV k, x4 l, sV to, iV many] [] (.fn 212 [.ptr 0 0, .ptr 1 0, .ptr 2 0, .ptr 3 0]) [.box [iV many], .box [sV to], .box [x4 l], .box [sV k]] := by
 refine z9 func188 rfl (fun E hE => ?_); simp only [go_sem, ntmps188]
 refine wk1 trivial ?_
 refine ⟨[_], [some 3, some 2, some 1, some 0], [], ⟨rfl, trivial⟩, ?_⟩
 simp only [go_sem, *]
theorem zPa (k : Str) (l : List Rule) (to : Str) (n : Nat) (hp : n ≤ 100) (hk1 : x6 k 1 12 = true) (hl : l.length ≤ 1000) (hr : ∀ r, r ∈ l → r.src.length ≤ 1000 ∧ r.dst.length ≤ 1000) :
  zUL prog 187 [.fn 212 [.ptr 0 0, .ptr 1 0, .ptr 2 0, .ptr 3 0], T8] [.box [iV n], .box [sV to], .box [x4 l], .box [sV k]] (.tup [Q6 (U8 l n k to), bV (U8 l n k to).isSome]) [.box [iV n], .box [sV to], .box [x4 l], .box [sV k]] := by
 have s1 := fun fn => zPQ ⟨n, to, l, 0, fn⟩ k n none rfl hp hk1 (fun b h => by cases h) hl hr
 have e : U8 l n k to = y7 zUP none (i4 l to n k []) := rfl
 rw [e]
 simp only at s1
 generalize y7 zUP none (i4 l to n k []) = B at *
 clear hr e
 refine z9 func187 rfl (fun E hE => ?_); simp only [go_sem, ntmps187]
 refine wk1 trivial ?_
 refine X5 (N := 23) (env := [(9, .fn 212 [.ptr 0 0, .ptr 1 0, .ptr 2 0, .ptr 3 0]), (3, .ptr 4 0), (6, .ptr 5 0), (7, .ptr 6 0)]) (As := [.box [iV n], .box [sV to], .box [x4 l], .box [sV k], .box [T8], .box [Q6 none], .box [bV false]]) [some 0, some 1, some 2, some 3, some 4, some 5, some 6] [] (by (simp only [Weak, go_sem, List.map_append, List.map_set, *] <;> (try simp (disch := omega) only [u6]) <;> (try simp) <;> (try omega))) ?_
 refine zAz (f := 212) (caps := [.ptr 0 0, .ptr 1 0, .ptr 2 0, .ptr 3 0]) rfl (by simp only [go_sem]) (by kernel_rfl) (nx := 7) (by simp only [go_sem]) (fun fn => ⟨8, ?_⟩)
 refine x7 [7, 4, 5, 6, 0, 1, 2, 3] [] (s1 fn) (by simp) (by simp only [go_sem]) ?_ (by simp) (.inl rfl) (by simp [go_sem]) (by simp [go_sem]) ?_
 ·simp only [go_sem, *]
  first | rfl | exact ⟨rfl, rfl⟩
 ·simp only [go_sem, *]
  refine ⟨W6 fn, [(3, .ptr 4 0), (6, .ptr 5 0), (7, .ptr 6 0)], none, by simp only [go_sem], ?_⟩
  simp only [go_sem]
  refine wk1 trivial ?_
  refine ⟨[_, _], [some 0, some 1, some 2, some 3], [], ⟨rfl, rfl, trivial⟩, ?_⟩
  simp only [go_sem, *]
end Go.Abs

namespace Go.Abs
open Go
theorem ValidN.mem0 {s : Str} (v : ValidN s) : s.getD 0 0 ∈ s := by
 cases s with
 | nil => have := v.ne; simp at this
 | cons c r => simp
theorem ValidN.other {s : Str} (v : ValidN s) (h : x5 (s.getD 0 0) = false) : s.all R0 = true := by
 have hf := v.form
 unfold X3 at hf
 rw [Bool.or_eq_true] at hf
 rcases hf with hf | hf
 ·have := List.all_eq_true.1 hf _ v.mem0
  rw [h] at this; cases this
 ·exact hf
theorem ValidN.check {s : Str} (v : ValidN s) : v5 s = 0 := checkN_zero.2 v
theorem zJg {r : List Rule} {a b : Str} (hr : p8 r = 0) (va : ValidN a) (vb : ValidN b) : V1 r a b = 0 := by
 unfold V1
 rw [if_pos hr, if_pos va.check, vb.check]
theorem zJe {r : List Rule} {a b : Str} (hr : p8 r = 0) (va : ValidN a) (vb : ValidN b) : (a7 r a b = 0 ∧ M1 r a b = zVg r a b ∧ zVg r a b ≤ 2 ∧ 0 ≤ zVg r a b) ∨ (a7 r a b = 11 ∧ M1 r a b = 0 ∧ zVg r a b = 9) := by
 have hp := zJg hr va vb
 unfold M1 a7 zAa zVg
 rw [if_pos hp, if_pos hp]
 cases h : F5 r a b with
 | none => exact .inr ⟨by simp, by simp, rfl⟩
 | some c =>
  obtain ⟨m, h1, h2, _⟩ := zEb h
  refine .inl ⟨by simp, by simp, ?_, ?_⟩
  ·simp only; omega
  ·simp only; omega
end Go.Abs

namespace Go.Abs
open Go Go.Proofs Tryz
attribute [local irreducible] q9 Hold y2
variable [Cur]
theorem zNq {r : List Rule} (h : p8 r = 0) : r.length ≤ 4 ∧ ∀ x, x ∈ r → x.src.length ≤ 2 ∧ x.dst.length ≤ 2 := by
 unfold p8 at h
 by_cases h4 : 4 < r.length
 ·rw [if_pos h4] at h; cases h
 ·rw [if_neg h4] at h
  by_cases ha : r.all Rule.ok = true
  ·refine ⟨by omega, fun x hx => ?_⟩
   have := List.all_eq_true.1 ha x hx
   unfold Rule.ok x6 at this
   simp only [Bool.and_eq_true, decide_eq_true_eq] at this
   exact ⟨this.1.2.1, this.2.1.2.1⟩
  ·rw [if_neg ha] at h; cases h
theorem zNJ {a b : Str} (h : o7 [a, b] = 0) : ValidN a ∧ ValidN b := by
 rw [zAE] at h
 by_cases q : v5 a = 0
 ·rw [if_pos q] at h; exact ⟨checkN_zero.1 q, checkN_zero.1 h⟩
 ·rw [if_neg q] at h; exact absurd h q
theorem zJh {α : Type} {f : Nat → Option α} {i : Nat} (h : i < 3) : O6 f (List.range' i (3 - i)) = match f i with
  | some b => some b
  | none => O6 f (List.range' (i + 1) (3 - (i + 1))) := by
 obtain rfl | rfl | rfl : i = 0 ∨ i = 1 ∨ i = 2 := by omega
 all_goals rfl
def F3 (k : Str) (l : List Rule) (to : Str) : Option (List Str) := O6 (fun n => U8 l n k to) [0, 1, 2]
theorem zPO (k : Str) (l : List Rule) (to : Str) (hk1 : x6 k 1 12 = true) (hl : l.length ≤ 1000) (hr : ∀ r, r ∈ l → r.src.length ≤ 1000 ∧ r.dst.length ≤ 1000) :
  zUL prog 167 [sV k, x4 l, sV to] [] (.tup [Q6 (F3 k l to), bV (F3 k l to).isSome]) [] := by
 have hca : y9 prog 189 = true := by kernel_rfl
 obtain ⟨T, hT⟩ : ∃ T, F3 k l to = T := ⟨_, rfl⟩
 rw [hT]
 have h0 : O6 (fun n => U8 l n k to) (List.range' 0 (3 - 0)) = T := hT
 clear hT
 have s1 := zPP k l to
 have s2 := fun n hn => zPa k l to n hn hk1 hl hr
 clear hk1 hl hr
 refine z9 func167 rfl (fun E hE => ?_); simp only [go_sem, ntmps167]
 refine wk1 trivial ?_
 refine x8 rfl (3) (fun i => O6 (fun n => U8 l n k to) (List.range' i (3 - i)) = T) 26 (fun i => [(11, iV i), (0, sV k), (1, x4 l), (2, sV to)]) (fun i => []) [] [] (by exact h0) ?_; intro i hi hP
 clear h0
 by_cases hi2 : i < 3
 ·rw [zJh hi2] at hP
  have s1 := s1 (i : Int)
  have s2 := s2 i (by omega)
  have hi3 : (i : Int) < 3 := by omega
  have hw : IntKind.i64.wrap ((i : Int) + 1) = ((i + 1 : Nat) : Int) := u6 (by omega)
  cases hc : U8 l i k to with
  | some c =>
   rw [hc] at hP s2
   have hP : some c = T := hP
   subst hP
   clear hc
   repeat' (first | (refine Qr rfl ?_; try intro _ hK; try simp only [go_sem, *]) | refine Qh rfl ?_ | (refine Qc rfl rfl ?_ ?_ <;> (intro hb; have hc := hb; try simp only [go_sem] at hc)) | refine z8 rfl ?_ | ((with_reducible apply And.intro); focus omega) | (refine z7 hK ?_; clear hK; simp only [go_sem, *]) | simp only [z6, z5, go_sem, *])
   refine i3 s1 ?_ (hu := by (intro j hj; simp only [List.length_cons, List.length_nil] at hj; (obtain rfl | rfl | rfl | rfl : j = 0 ∨ j = 1 ∨ j = 2 ∨ j = 3 := by omega) <;> simp [go_sem]))
   simp only [go_sem, *]
   repeat' (first | (refine Qr rfl ?_; try intro _ hK; try simp only [go_sem, *]) | refine Qh rfl ?_ | (refine Qc rfl rfl ?_ ?_ <;> (intro hb; have hc := hb; try simp only [go_sem] at hc)) | refine z8 rfl ?_ | ((with_reducible apply And.intro); focus omega) | (refine z7 hK ?_; clear hK; simp only [go_sem, *]) | simp only [z6, z5, go_sem, *])
   refine u9 [0, 1, 2, 3] s2 ?_
   simp only [go_sem, *]
   repeat' (first | (refine Qr rfl ?_; try intro _ hK; try simp only [go_sem, *]) | refine Qh rfl ?_ | (refine Qc rfl rfl ?_ ?_ <;> (intro hb; have hc := hb; try simp only [go_sem] at hc)) | refine z8 rfl ?_ | ((with_reducible apply And.intro); focus omega) | (refine z7 hK ?_; clear hK; simp only [go_sem, *]) | simp only [z6, z5, go_sem, *])
   all_goals try contradiction
   (refine ⟨[_, _], [], [], ⟨rfl, rfl, trivial⟩, ?_⟩; simp only [go_sem, *])
  | none =>
   rw [hc] at hP s2
   have hP : O6 (fun n => U8 l n k to) (List.range' (i + 1) (3 - (i + 1))) = T := hP
   clear hc
   repeat' (first | (refine Qr rfl ?_; try intro _ hK; try simp only [go_sem, *]) | refine Qh rfl ?_ | (refine Qc rfl rfl ?_ ?_ <;> (intro hb; have hc := hb; try simp only [go_sem] at hc)) | refine z8 rfl ?_ | ((with_reducible apply And.intro); focus omega) | (refine z7 hK ?_; clear hK; simp only [go_sem, *]) | simp only [z6, z5, go_sem, *])
   refine i3 s1 ?_ (hu := by (intro j hj; simp only [List.length_cons, List.length_nil] at hj; (obtain rfl | rfl | rfl | rfl : j = 0 ∨ j = 1 ∨ j = 2 ∨ j = 3 := by omega) <;> simp [go_sem]))
   simp only [go_sem, *]
   repeat' (first | (refine Qr rfl ?_; try intro _ hK; try simp only [go_sem, *]) | refine Qh rfl ?_ | (refine Qc rfl rfl ?_ ?_ <;> (intro hb; have hc := hb; try simp only [go_sem] at hc)) | refine z8 rfl ?_ | ((with_reducible apply And.intro); focus omega) | (refine z7 hK ?_; clear hK; simp only [go_sem, *]) | simp only [z6, z5, go_sem, *])
   refine u9 [0, 1, 2, 3] s2 ?_
   simp only [go_sem, *]
   repeat' (first | (refine Qr rfl ?_; try intro _ hK; try simp only [go_sem, *]) | refine Qh rfl ?_ | (refine Qc rfl rfl ?_ ?_ <;> (intro hb; have hc := hb; try simp only [go_sem] at hc)) | refine z8 rfl ?_ | ((with_reducible apply And.intro); focus omega) | (refine z7 hK ?_; clear hK; simp only [go_sem, *]) | simp only [z6, z5, go_sem, *])
   all_goals try contradiction
   exact y8 (i' := i + 1) [] [] (by exact hP)
 ·have e : 3 - i = 0 := by omega
  rw [e] at hP
  have hP : none = T := hP
  subst hP
  have hi3 : ¬ (i : Int) < 3 := by omega
  clear s1 s2
  refine wk1 trivial ?_
  (refine ⟨[_, _], [], [], ⟨rfl, rfl, trivial⟩, ?_⟩; simp only [go_sem, *])
  all_goals rfl
def F4 (r : List Rule) (a b : Str) : Option (List Str) := if V1 r a b = 0 then F5 r a b else none
theorem zDO {r : List Rule} {a b : Str} (q : p8 r = 0) : V1 r a b = o7 [a, b] := by
 unfold V1; rw [if_pos q, zAE]
theorem zJc {r : List Rule} {a b : Str} (h : V1 r a b = 0) : F4 r a b = F3 (zUN a) r (zUN b) := if_pos h
theorem zEa {r : List Rule} {a b : Str} (h : V1 r a b = 0) : a7 r a b = if (F3 (zUN a) r (zUN b)).isSome = true then 0 else 11 := if_pos h
theorem zJd {r : List Rule} {a b : Str} (h : a7 r a b = 0) : ∃ c, F4 r a b = some c ∧ zAa r a b = c ∧ 1 ≤ c.length ∧ c.length ≤ 3 ∧ M1 r a b = (c.length : Int) - 1 := by
 by_cases hp : V1 r a b = 0
 ·have h2 := h
  rw [zEa hp] at h2
  cases hc : F5 r a b with
  | none =>
   have : F3 (zUN a) r (zUN b) = none := hc
   rw [this] at h2; cases h2
  | some c =>
   have hv : zAa r a b = c := by unfold zAa; rw [if_pos hp, hc]; rfl
   obtain ⟨n, h1, h3, _⟩ := zEb hc
   refine ⟨c, by rw [F4, if_pos hp, hc], hv, by omega, by omega, ?_⟩
   unfold M1; rw [if_pos h, hv]
 ·unfold a7 at h; rw [if_neg hp] at h; exact absurd h hp
theorem zOZ (r : List Rule) (a b : Str) (hl : r.length ≤ 4294967296) (hr : ∀ x, x ∈ r → x.src.length ≤ 4294967296 ∧ x.dst.length ≤ 4294967296) :
  zUL prog 140 [x4 r, sV a, sV b] [] (.tup [Q6 (F4 r a b), iV (a7 r a b)]) [] := by
 have s1 := zP9 r hl hr
 have sc : zUL prog 71 [.list [sV a, sV b]] [] (iV (o7 [a, b])) [] := zDl [a, b] (by simp)
 by_cases q1 : p8 r = 0
 ·rw [q1] at s1
  by_cases q2 : o7 [a, b] = 0
  ·obtain ⟨va, vb⟩ := zNJ q2
   have hp : V1 r a b = 0 := by rw [zDO q1, q2]
   obtain ⟨h4, h5⟩ := zNq q1
   have s2 := H6 a va.form (by have := va.len; omega)
   have s3 := H6 b vb.form (by have := vb.len; omega)
   have s4 := zPO (zUN a) r (zUN b) (A4 va) (by omega) (fun x hx => by have := h5 x hx; omega)
   rw [zJc hp, zEa hp]
   rw [q2] at sc
   generalize F3 (zUN a) r (zUN b) = o at *
   generalize zUN a = ka at *
   generalize zUN b = kb at *
   clear q1 q2 va vb hp h4 h5 hl hr
   cases o with
   | none =>
    simp only [Option.isSome_none, Bool.false_eq_true, if_false] at s4 ⊢
    refine z9 func140 rfl (fun E hE => ?_); simp only [go_sem, ntmps140]
    repeat' (first | (refine Qr rfl ?_; try intro _ hK; try simp only [go_sem, *]) | refine Qh rfl ?_ | (refine Qc rfl rfl ?_ ?_ <;> (intro hb; have hc := hb; try simp only [go_sem] at hc)) | refine z8 rfl ?_ | (refine y6 (s1) ?_; simp only [go_sem, *]) | ((with_reducible apply And.intro); focus omega) | (refine z7 hK ?_; clear hK; simp only [go_sem, *]) | simp only [z6, z5, go_sem, *])
    all_goals try contradiction
    (refine U5 [0] (sc) (by simp only [go_sem, *]) (.raw _) ?_; simp only [go_sem, *])
    repeat' (first | (refine Qr rfl ?_; try intro _ hK; try simp only [go_sem, *]) | refine Qh rfl ?_ | (refine Qc rfl rfl ?_ ?_ <;> (intro hb; have hc := hb; try simp only [go_sem] at hc)) | refine z8 rfl ?_ | (refine u0 (s2) ?_ ?_; (focus (simp only [go_sem, *]; done)); simp only [go_sem, *]) | (refine u0 (s3) ?_ ?_; (focus (simp only [go_sem, *]; done)); simp only [go_sem, *]) | (refine y6 (s4) ?_; simp only [go_sem, *]) | ((with_reducible apply And.intro); focus omega) | (refine z7 hK ?_; clear hK; simp only [go_sem, *]) | simp only [z6, z5, go_sem, *])
    all_goals try contradiction
    (refine ⟨[_, _], [], [], ⟨rfl, rfl, trivial⟩, ?_⟩; simp only [go_sem, *])
   | some c =>
    simp only [Option.isSome_some, if_true] at s4 ⊢
    refine z9 func140 rfl (fun E hE => ?_); simp only [go_sem, ntmps140]
    repeat' (first | (refine Qr rfl ?_; try intro _ hK; try simp only [go_sem, *]) | refine Qh rfl ?_ | (refine Qc rfl rfl ?_ ?_ <;> (intro hb; have hc := hb; try simp only [go_sem] at hc)) | refine z8 rfl ?_ | (refine y6 (s1) ?_; simp only [go_sem, *]) | ((with_reducible apply And.intro); focus omega) | (refine z7 hK ?_; clear hK; simp only [go_sem, *]) | simp only [z6, z5, go_sem, *])
    all_goals try contradiction
    (refine U5 [0] (sc) (by simp only [go_sem, *]) (.raw _) ?_; simp only [go_sem, *])
    repeat' (first | (refine Qr rfl ?_; try intro _ hK; try simp only [go_sem, *]) | refine Qh rfl ?_ | (refine Qc rfl rfl ?_ ?_ <;> (intro hb; have hc := hb; try simp only [go_sem] at hc)) | refine z8 rfl ?_ | (refine u0 (s2) ?_ ?_; (focus (simp only [go_sem, *]; done)); simp only [go_sem, *]) | (refine u0 (s3) ?_ ?_; (focus (simp only [go_sem, *]; done)); simp only [go_sem, *]) | (refine y6 (s4) ?_; simp only [go_sem, *]) | ((with_reducible apply And.intro); focus omega) | (refine z7 hK ?_; clear hK; simp only [go_sem, *]) | simp only [z6, z5, go_sem, *])
    all_goals try contradiction
    (refine ⟨[_, _], [], [], ⟨rfl, rfl, trivial⟩, ?_⟩; simp only [go_sem, *])
  ·have hp : ¬ V1 r a b = 0 := by rw [zDO q1]; exact q2
   have e1 : F4 r a b = none := if_neg hp
   have e2 : a7 r a b = o7 [a, b] := by unfold a7; rw [if_neg hp, zDO q1]
   rw [e1, e2]
   clear e1 e2 hp q1 hl hr
   generalize o7 [a, b] = e at *
   refine z9 func140 rfl (fun E hE => ?_); simp only [go_sem, ntmps140]
   repeat' (first | (refine Qr rfl ?_; try intro _ hK; try simp only [go_sem, *]) | refine Qh rfl ?_ | (refine Qc rfl rfl ?_ ?_ <;> (intro hb; have hc := hb; try simp only [go_sem] at hc)) | refine z8 rfl ?_ | (refine y6 (s1) ?_; simp only [go_sem, *]) | ((with_reducible apply And.intro); focus omega) | (refine z7 hK ?_; clear hK; simp only [go_sem, *]) | simp only [z6, z5, go_sem, *])
   all_goals try contradiction
   (refine U5 [0] (sc) (by simp only [go_sem, *]) (.raw _) ?_; simp only [go_sem, *])
   repeat' (first | (refine Qr rfl ?_; try intro _ hK; try simp only [go_sem, *]) | refine Qh rfl ?_ | (refine Qc rfl rfl ?_ ?_ <;> (intro hb; have hc := hb; try simp only [go_sem] at hc)) | refine z8 rfl ?_ | ((with_reducible apply And.intro); focus omega) | (refine z7 hK ?_; clear hK; simp only [go_sem, *]) | simp only [z6, z5, go_sem, *])
   all_goals try contradiction
   (refine ⟨[_, _], [], [], ⟨rfl, rfl, trivial⟩, ?_⟩; simp only [go_sem, *])
 ·have hp : V1 r a b = p8 r := by unfold V1; rw [if_neg q1]
  have e1 : F4 r a b = none := if_neg (by rw [hp]; exact q1)
  have e2 : a7 r a b = p8 r := by unfold a7; rw [hp, if_neg q1]
  rw [e1, e2]
  clear e1 e2 hp hl hr sc
  generalize p8 r = e at *
  refine z9 func140 rfl (fun E hE => ?_); simp only [go_sem, ntmps140]
  refine wk1 s1 ?_
  (refine ⟨[_, _], [], [], ⟨rfl, rfl, trivial⟩, ?_⟩; simp only [go_sem, *])
theorem zO6 (r : List Rule) (a b : Str) (hl : r.length ≤ 4294967296) (hr : ∀ x, x ∈ r → x.src.length ≤ 4294967296 ∧ x.dst.length ≤ 4294967296) :
  zUL prog 113 [x4 r, sV a, sV b] [] (.tup [iV (M1 r a b), iV (a7 r a b)]) [] := by
 have sC := zOZ r a b hl hr
 clear hl hr
 by_cases q : a7 r a b = 0
 ·obtain ⟨c, h1, _, h2, h3, h4⟩ := zJd q
  rw [h4, q]
  rw [h1, q] at sC
  have hw : IntKind.i64.wrap ((c.length : Int) - 1) = (c.length : Int) - 1 := wrap_i64 (by omega) (by omega)
  clear q h1 h4
  refine z9 func113 rfl (fun E hE => ?_); simp only [go_sem, ntmps113]
  refine wk1 sC ?_
  (refine ⟨[_, _], [], [], ⟨rfl, rfl, trivial⟩, ?_⟩; simp only [go_sem, *])
 ·have e : M1 r a b = 0 := by unfold M1; rw [if_neg q]
  rw [e]
  clear e
  generalize F4 r a b = o at *
  generalize a7 r a b = e at *
  refine z9 func113 rfl (fun E hE => ?_); simp only [go_sem, ntmps113]
  refine wk1 sC ?_
  (refine ⟨[_, _], [], [], ⟨rfl, rfl, trivial⟩, ?_⟩; simp only [go_sem, *])
theorem zO9 (r : List Rule) (a b : Str) (hl : r.length ≤ 4294967296) (hr : ∀ x, x ∈ r → x.src.length ≤ 4294967296 ∧ x.dst.length ≤ 4294967296) :
  zUL prog 90 [x4 r, sV a, sV b] [] (.tup [iV (zD5 r a b), iV (zBA r a b)]) [] := by
 have sU := zO6 r a b hl hr
 clear hl hr
 unfold zD5 zBA
 generalize M1 r a b = n at *
 generalize a7 r a b = e at *
 refine z9 func90 rfl (fun E hE => ?_); simp only [go_sem, ntmps90]
 repeat' (first | (refine Qr rfl ?_; try intro _ hK; try simp only [go_sem, *]) | refine Qh rfl ?_ | (refine Qc rfl rfl ?_ ?_ <;> (intro hb; have hc := hb; try simp only [go_sem] at hc)) | refine z8 rfl ?_ | (refine y6 (sU) ?_; simp only [go_sem, *]) | ((with_reducible apply And.intro); focus omega) | (refine z7 hK ?_; clear hK; simp only [go_sem, *]) | simp only [z6, z5, go_sem, *])
 all_goals (refine ⟨[_, _], [], [], ⟨rfl, rfl, trivial⟩, ?_⟩; simp only [go_sem, *])
 all_goals simp_all
end Go.Abs

namespace Go.Abs
open Go Go.Proofs Tryz
variable [Cur]
end Go.Abs

namespace Go.Abs
open Go Go.Proofs Tryz
attribute [local irreducible] q9 Hold y2
variable [Cur]
abbrev Z6 (l : List Nat) : AV := .list (l.map nV)
theorem zJq {x y : List Nat} {i : Nat} (h1 : i < x.length) (h2 : i < y.length) : t9 (x.drop i) (y.drop i) = if zUU (x.getD i default) (y.getD i default) = 0 then t9 (x.drop (i + 1)) (y.drop (i + 1)) else zUU (x.getD i default) (y.getD i default) := by
 rw [o5 h1, o5 h2, t9]
theorem zJp {x y : List Nat} {i : Nat} (h1 : i < x.length) (h2 : y.length ≤ i) : t9 (x.drop i) (y.drop i) = 1 := by
 rw [o5 h1, Z5 h2, t9]
theorem zJo {x y : List Nat} {i : Nat} (h1 : x.length ≤ i) : t9 (x.drop i) (y.drop i) = if i < y.length then -1 else 0 := by
 rw [Z5 h1]
 by_cases h2 : i < y.length
 ·rw [o5 h2, t9, if_pos h2]
 ·rw [Z5 (by omega), t9, if_neg h2]
theorem zOb (x y : List Nat) (h1 : x.length ≤ 4294967296) (h2 : y.length ≤ 4294967296) : zUL prog 77 [Z6 x, Z6 y] [] (iV (t9 x y)) [] := by
 refine z9 func77 rfl (fun E hE => ?_); simp only [go_sem, ntmps77]
 refine wk1 trivial ?_
 refine x8 rfl (x.length) (fun i => t9 (x.drop i) (y.drop i) = t9 x y ∧ i ≤ y.length) 36 (fun i => [(11, iV i), (10, iV x.length), (9, Z6 x), (0, Z6 x), (1, Z6 y)]) (fun i => []) [] [] (by simp) ?_; intro i hi hP
 obtain ⟨hP, hiy⟩ := hP
 by_cases hi2 : i < x.length
 ·by_cases hi3 : i < y.length
  ·have hs := zJq hi2 hi3
   have sc := zDi (x.getD i default) (y.getD i default)
   rw [hs] at hP
   clear hs
   have gi : ¬ ((i : Int) ≥ (y.length : Int)) := by omega
   by_cases q : zUU (x.getD i default) (y.getD i default) = 0
   ·rw [if_pos q] at hP
    rw [q] at sc
    refine wk1 sc ?_
    all_goals first | contradiction | omega | skip
    exact y8 (i' := i + 1) [] [] (by exact ⟨hP, by omega⟩)
   ·rw [if_neg q] at hP
    generalize zUU (x.getD i default) (y.getD i default) = c at *
    rw [← hP]
    clear hP
    refine wk1 sc ?_
    all_goals first | contradiction | omega | skip
    (refine ⟨[_], [], [], ⟨rfl, trivial⟩, ?_⟩; simp only [go_sem, *])
  ·rw [zJp hi2 (by omega)] at hP
   rw [← hP]
   clear hP
   refine wk1 trivial ?_
   all_goals first | contradiction | omega | skip
   (refine ⟨[_], [], [], ⟨rfl, trivial⟩, ?_⟩; simp only [go_sem, *])
 ·have hix : i = x.length := by omega
  subst hix
  rw [zJo (Nat.le_refl _)] at hP
  by_cases hxy : x.length < y.length
  ·rw [if_pos hxy] at hP
   rw [← hP]
   clear hP
   refine wk1 trivial ?_
   all_goals first | contradiction | omega | skip
   (refine ⟨[_], [], [], ⟨rfl, trivial⟩, ?_⟩; simp only [go_sem, *])
  ·rw [if_neg hxy] at hP
   rw [← hP]
   clear hP
   refine wk1 trivial ?_
   all_goals first | contradiction | omega | skip
   (refine ⟨[_], [], [], ⟨rfl, trivial⟩, ?_⟩; simp only [go_sem, *])
theorem zQB (a b : List Nat) (h1 : a.length ≤ 4294967296) (h2 : b.length ≤ 4294967296) : zUL prog 35 [Z6 a, Z6 b] [] (iV (v9 a b)) [] := by
 have s1 := zDi a.length b.length
 have s2 := zOb a b h1 h2
 have so := zDk [zUU a.length b.length, t9 a b] (by simp)
 rw [zDL] at so
 unfold v9
 generalize orI (zUU a.length b.length) (t9 a b) = r at *
 generalize zUU a.length b.length = c at *
 generalize t9 a b = d at *
 clear h1 h2
 refine z9 func35 rfl (fun E hE => ?_); simp only [go_sem, ntmps35]
 repeat' (first | (refine Qr rfl ?_; try intro _ hK; try simp only [go_sem, *]) | refine Qh rfl ?_ | (refine Qc rfl rfl ?_ ?_ <;> (intro hb; have hc := hb; try simp only [go_sem] at hc)) | refine z8 rfl ?_ | ((first | refine y6 (s1) ?_ | refine y6 (s2) ?_); simp only [go_sem, *]) | ((with_reducible apply And.intro); focus omega) | (refine z7 hK ?_; clear hK; simp only [go_sem, *]) | simp only [z6, z5, go_sem, *])
 (refine U5 [0] (so) (by simp only [go_sem, *]) (.raw _) ?_; simp only [go_sem, *])
 repeat' (first | (refine Qr rfl ?_; try intro _ hK; try simp only [go_sem, *]) | refine Qh rfl ?_ | (refine Qc rfl rfl ?_ ?_ <;> (intro hb; have hc := hb; try simp only [go_sem] at hc)) | refine z8 rfl ?_ | ((with_reducible apply And.intro); focus omega) | (refine z7 hK ?_; clear hK; simp only [go_sem, *]) | simp only [z6, z5, go_sem, *])
 (refine ⟨[_], [], [], ⟨rfl, trivial⟩, ?_⟩; simp only [go_sem, *])
noncomputable def zE8 : Code := sub [0, 1, 0, 1, 1, 1] (W3 Tryz.f34)
noncomputable def T9 (fn : FuncId) : LoopK := ⟨fn, #[10], D2 zE8, D3 zE8, 23⟩
def U4 : Option (List Nat) → AV
 | none => .raw (.slice none 0 0)
 | some c => Z6 c
@[go_sem] theorem zSN : U4 none = .raw (.slice none 0 0) := rfl
@[go_sem] theorem zSO (c : List Nat) : U4 (some c) = .list (c.map nV) := rfl
@[go_sem] theorem zR2 (H : Nat → AObj) (m : List (Option Nat)) (ex : List Nat) (B : Option (List Nat)) : XpF H m ex (U4 B) (U4 B) ↔ True := by cases B <;> simp [U4, XpF]
@[go_sem] theorem zTx (f : Nat → Nat) (B : Option (List Nat)) : AV.ren f (U4 B) = U4 B := by cases B <;> simp [U4, AV.ren]
abbrev N9 : AV := fnV 35
theorem zRo (fn : FuncId) (c : List Nat) : Y4 prog [Z6 c] [.loopo (T9 fn) [(3, .ptr 1 0), (6, .ptr 2 0), (7, .ptr 3 0)] (some none), .box [N9], .box [.raw (.slice none 0 0)], .box [bV false]] (bV true)
  [.loopo (T9 fn) [(3, .ptr 1 0), (6, .ptr 2 0), (7, .ptr 3 0)] (some none), .box [N9], .box [Z6 c], .box [bV true]] := by
 refine K3 (L := T9 fn) (env := [(3, .ptr 1 0), (6, .ptr 2 0), (7, .ptr 3 0)]) (j := none) rfl rfl (fun E l hE => ?_)
 refine o8 rfl ?_
 simp only [T9, X8, go_sem]
 repeat' (first | (refine Qr (ops := _ :: _) rfl ?_; try intro _ hK; try simp only [go_sem, *]) | (refine Qi rfl rfl rfl rfl ?_ ?_ <;> (intro hb; (try intro _ hK); have hc := hb; try simp only [go_sem] at hc; simp only [go_sem, *])) | (refine Qb ?_ ?_; focus kernel_rfl) | ((with_reducible apply And.intro); focus omega) | (refine z7 hK ?_; clear hK; simp only [go_sem, *]) | simp only [z6, z5, go_sem, *])
 refine w7 ?_
 refine ⟨by simp only [go_sem], ?_⟩
 refine L3 (id := 1) rfl ?_
 refine T2 rfl ?_
 refine o8 rfl ?_
 simp only [go_sem]
 repeat' (first | (refine Qr (ops := _ :: _) rfl ?_; try intro _ hK; try simp only [go_sem, *]) | (refine Qi rfl rfl rfl rfl ?_ ?_ <;> (intro hb; (try intro _ hK); have hc := hb; try simp only [go_sem] at hc; simp only [go_sem, *])) | (refine Qb ?_ ?_; focus kernel_rfl) | ((with_reducible apply And.intro); focus omega) | (refine z7 hK ?_; clear hK; simp only [go_sem, *]) | simp only [z6, z5, go_sem, *])
 refine w7 ?_
 refine N4 (t := true) rfl (by simp only [go_sem]) (fun _ => ?_) (fun h => by cases h)
 refine o8 rfl ?_
 simp only [go_sem]
 repeat' (first | (refine Qr (ops := _ :: _) rfl ?_; try intro _ hK; try simp only [go_sem, *]) | (refine Qi rfl rfl rfl rfl ?_ ?_ <;> (intro hb; (try intro _ hK); have hc := hb; try simp only [go_sem] at hc; simp only [go_sem, *])) | (refine Qb ?_ ?_; focus kernel_rfl) | ((with_reducible apply And.intro); focus omega) | (refine z7 hK ?_; clear hK; simp only [go_sem, *]) | simp only [z6, z5, go_sem, *])
 refine w7 ?_
 simp only [z5, go_sem]
 refine ⟨rfl, [some 0, some 1, some 2, some 3], [], ?_⟩
 simp only [go_sem, *]
theorem zRp (fn : FuncId) (b c : List Nat) (hb1 : b.length ≤ 1000) (hc1 : c.length ≤ 1000) : Y4 prog [Z6 c] [.loopo (T9 fn) [(3, .ptr 1 0), (6, .ptr 2 0), (7, .ptr 3 0)] (some none), .box [N9], .box [Z6 b], .box [bV true]] (bV true)
  [.loopo (T9 fn) [(3, .ptr 1 0), (6, .ptr 2 0), (7, .ptr 3 0)] (some none), .box [N9], .box [Z6 (if v9 c b < 0 then c else b)], .box [bV true]] := by
 have hca : y9 prog 35 = true := by kernel_rfl
 have sc := zQB c b (by omega) (by omega)
 refine K3 (L := T9 fn) (env := [(3, .ptr 1 0), (6, .ptr 2 0), (7, .ptr 3 0)]) (j := none) rfl rfl (fun E l hE => ?_)
 refine o8 rfl ?_
 simp only [T9, X8, go_sem]
 repeat' (first | (refine Qr (ops := _ :: _) rfl ?_; try intro _ hK; try simp only [go_sem, *]) | (refine Qi rfl rfl rfl rfl ?_ ?_ <;> (intro hb; (try intro _ hK); have hc := hb; try simp only [go_sem] at hc; simp only [go_sem, *])) | (refine Qb ?_ ?_; focus kernel_rfl) | ((with_reducible apply And.intro); focus omega) | (refine z7 hK ?_; clear hK; simp only [go_sem, *]) | simp only [z6, z5, go_sem, *])
 refine w7 ?_
 refine ⟨by simp only [go_sem], ?_⟩
 refine L3 (id := 1) rfl ?_
 refine T2 rfl ?_
 refine o8 rfl ?_
 simp only [go_sem]
 repeat' (first | (refine Qr (ops := _ :: _) rfl ?_; try intro _ hK; try simp only [go_sem, *]) | (refine Qi rfl rfl rfl rfl ?_ ?_ <;> (intro hb; (try intro _ hK); have hc := hb; try simp only [go_sem] at hc; simp only [go_sem, *])) | (refine Qb ?_ ?_; focus kernel_rfl) | ((with_reducible apply And.intro); focus omega) | (refine z7 hK ?_; clear hK; simp only [go_sem, *]) | simp only [z6, z5, go_sem, *])
 refine y6 sc ?_
 simp only [go_sem]
 repeat' (first | (refine Qr (ops := _ :: _) rfl ?_; try intro _ hK; try simp only [go_sem, *]) | (refine Qi rfl rfl rfl rfl ?_ ?_ <;> (intro hb; (try intro _ hK); have hc := hb; try simp only [go_sem] at hc; simp only [go_sem, *])) | (refine Qb ?_ ?_; focus kernel_rfl) | ((with_reducible apply And.intro); focus omega) | (refine z7 hK ?_; clear hK; simp only [go_sem, *]) | simp only [z6, z5, go_sem, *])
 refine w7 ?_
 refine N4 (t := decide (v9 c b < 0)) rfl (by simp only [go_sem]) (fun h => ?_) (fun h => ?_)
 ·rw [if_pos (by simpa using h)]
  refine o8 rfl ?_
  simp only [go_sem]
  repeat' (first | (refine Qr (ops := _ :: _) rfl ?_; try intro _ hK; try simp only [go_sem, *]) | (refine Qi rfl rfl rfl rfl ?_ ?_ <;> (intro hb; (try intro _ hK); have hc := hb; try simp only [go_sem] at hc; simp only [go_sem, *])) | (refine Qb ?_ ?_; focus kernel_rfl) | ((with_reducible apply And.intro); focus omega) | (refine z7 hK ?_; clear hK; simp only [go_sem, *]) | simp only [z6, z5, go_sem, *])
  refine w7 ?_
  simp only [z5, go_sem]
  refine ⟨rfl, [some 0, some 1, some 2, some 3], [], ?_⟩
  simp only [go_sem, *]
 ·rw [if_neg (by simpa using h)]
  refine zAJ rfl ?_
  simp only [z5, go_sem]
  refine ⟨rfl, [some 0, some 1, some 2, some 3], [], ?_⟩
  simp only [go_sem, *]
theorem zRn (fn : FuncId) (B : Option (List Nat)) (c : List Nat) (hb1 : ∀ b, B = some b → b.length ≤ 1000) (hc1 : c.length ≤ 1000) : Y4 prog [Z6 c] [.loopo (T9 fn) [(3, .ptr 1 0), (6, .ptr 2 0), (7, .ptr 3 0)] (some none), .box [N9], .box [U4 B], .box [bV B.isSome]] (bV true)
  [.loopo (T9 fn) [(3, .ptr 1 0), (6, .ptr 2 0), (7, .ptr 3 0)] (some none), .box [N9], .box [U4 (y7 v9 B [c])], .box [bV (y7 v9 B [c]).isSome]] := by
 cases B with
 | none => exact zRo fn c
 | some b =>
  have := zRp fn b c (hb1 b rfl) hc1
  rw [zCg]
  by_cases h : v9 c b < 0
  ·simp only [if_pos h] at this ⊢; exact this
  ·simp only [if_neg h] at this ⊢; exact this
end Go.Abs

namespace Go.Abs
open Go Go.Proofs Tryz
attribute [local irreducible] q9 Hold y2
variable [Cur]
def N6 (l : List Str) (s : Nat) : List (List Nat) := (List.range' s (2 ^ l.length - s)).filterMap fun set => if Q0 (zAK l set) = true then some (X7 l.length set) else none
theorem zNg (l : List Str) : N6 l 0 = Y7 l := by
 unfold N6 Y7
 rw [List.range_eq_range']; rfl
theorem zNf {l : List Str} {s : Nat} (h : s < 2 ^ l.length) : N6 l s = (if Q0 (zAK l s) = true then [X7 l.length s] else []) ++ N6 l (s + 1) := by
 unfold N6
 rw [show 2 ^ l.length - s = (2 ^ l.length - (s + 1)) + 1 by omega, List.range'_succ, List.filterMap_cons]
 split <;> rename_i h2 <;> split at h2 <;> simp_all
theorem zNe {l : List Str} {s : Nat} (h : ¬ s < 2 ^ l.length) : N6 l s = [] := by
 unfold N6
 rw [show 2 ^ l.length - s = 0 by omega]; rfl
def L7 (l : List Str) (set i : Nat) : List Str := ((List.range i).filter fun i => !set.testBit i).map fun i => l.getD i default
theorem zNH (set i : Nat) : X7 (i + 1) set = if set.testBit i = true then X7 i set ++ [i] else X7 i set := by
 unfold X7
 rw [List.range_succ, List.filter_append]
 cases h : set.testBit i <;> simp [h]
theorem zNc (l : List Str) (set i : Nat) : L7 l set (i + 1) = if set.testBit i = true then L7 l set i else L7 l set i ++ [l.getD i default] := by
 unfold L7
 rw [List.range_succ, List.filter_append]
 cases h : set.testBit i <;> simp [h]
theorem zGb (set i : Nat) : (X7 i set).length ≤ i := by
 unfold X7
 have := List.length_filter_le (fun i => set.testBit i) (List.range i)
 simpa using this
theorem zGk (l : List Str) (set i : Nat) : (L7 l set i).length ≤ i := by
 unfold L7
 have := List.length_filter_le (fun i => !set.testBit i) (List.range i)
 simpa using this
theorem zOG : ∀ n, n < 7 → IntKind.i64.wrap (1 * 2 ^ (min n 64)) = ((2 ^ n : Nat) : Int) := by decide
def zEJ (a b : Int) : Int := IntKind.i64.wrap (BitVec.ofInt IntKind.i64.bits a &&& BitVec.ofInt IntKind.i64.bits b).toNat
def zG9 (a : Int) (k : Nat) : Int := a.fdiv (2 ^ (min k IntKind.i64.bits))
@[go_sem ↓] theorem zS6 (a b : Int) (K : Cont) : zVI .and .i64 a b K = K (iV (zEJ a b)) [] [] := rfl
@[go_sem ↓] theorem zUB (a b : Int) (K : Cont) : N8 .shr .i64 a b K = (0 ≤ b ∧ K (iV (zG9 a b.toNat)) [] []) := rfl
def zVp (set i : Nat) : Int := zEJ (zG9 set i) 1
set_option maxRecDepth 100000 in
theorem zJE : ((List.range 64).all fun set => (List.range 6).all fun i => decide (zVp set i = if set.testBit i = true then 1 else 0)) = true := by kernel_rfl
theorem zJF {set i : Nat} (h1 : set < 64) (h2 : i < 6) : zVp set i = if set.testBit i = true then 1 else 0 := by
 have := List.all_eq_true.1 (List.all_eq_true.1 zJE set (List.mem_range.2 h1)) i (List.mem_range.2 h2)
 exact of_decide_eq_true this
noncomputable abbrev J5 (fn : FuncId) (B : Option (List Nat)) : List AObj := [.loopo (T9 fn) [(3, .ptr 1 0), (6, .ptr 2 0), (7, .ptr 3 0)] (some none), .box [N9], .box [U4 B], .box [bV B.isSome]]
theorem zPB (fn : FuncId) (l : List Str) (hv : ∀ s, s ∈ l → ValidN s) (h6 : l.length ≤ 6) (B : Option (List Nat)) (hB : ∀ b, B = some b → b.length ≤ 1000) :
  zUL prog 31 [.yld 0, .ptr 4 0] (J5 fn B ++ [.box [y4 l]]) (.tup []) (J5 fn (y7 v9 B (Y7 l)) ++ [.box [y4 l]]) := by
 obtain ⟨T, hT⟩ : ∃ T, y7 v9 B (Y7 l) = T := ⟨_, rfl⟩
 rw [hT]
 rw [← zNg] at hT
 have hpw : (2 : Nat) ^ l.length ≤ 64 := Nat.pow_le_pow_right (by decide) h6
 have hsh := zOG l.length (by omega)
 simp only [J5, List.cons_append, List.nil_append]
 refine z9 func31 rfl (fun E hE => ?_); simp only [go_sem, ntmps31]
 refine wk1 trivial ?_
 refine Q8 rfl (2 ^ l.length) (fun s (Z : Option (List Nat)) => y7 v9 Z (N6 l s) = T ∧ ∀ b, Z = some b → b.length ≤ 1000) 44 (fun s Z => [(11, iV s), (10, iV ((2 ^ l.length : Nat) : Int)), (0, .yld 0), (1, .ptr 4 0)]) (fun s Z => J5 fn Z ++ [.box [y4 l]]) [some 0, some 1, some 2, some 3, some 4] [] (B) (by exact ⟨hT, hB⟩) ?_; intro s Z hs hP
 clear hT hB hsh
 obtain ⟨hP, hZ⟩ := hP
 by_cases hs2 : s < 2 ^ l.length
 ·have hsi : (s : Int) < ((2 ^ l.length : Nat) : Int) := by omega
  refine wk1 trivial ?_
  all_goals first | contradiction | omega | skip
  refine A6 rfl (l.length) (fun i (o : List Nat) (q : List Str) => o = X7 i s ∧ q = L7 l s i) 44 (fun i o q => [(16, iV i), (15, iV l.length), (14, y4 l), (3, iV s), (4, .own 5 1 0 o.length), (5, .own 6 1 0 q.length), (11, iV s), (10, iV ((2 ^ l.length : Nat) : Int)), (0, .yld 0), (1, .ptr 4 0)]) (fun i o q => J5 fn Z ++ [.box [y4 l], .row 1 (o.map nV), .row 1 (q.map sV)]) [some 0, some 1, some 2, some 3, some 4, none, none] [] ([]) ([]) (by exact ⟨rfl, rfl⟩) ?_; intro i o q hi hQ
  obtain ⟨hQ1, hQ2⟩ := hQ
  by_cases hi2 : i < l.length
  ·have hii : (i : Int) < (l.length : Int) := by omega
   have hwi : IntKind.i64.wrap ((i : Int) + 1) = ((i + 1 : Nat) : Int) := u6 (by omega)
   have hbe := zJF (set := s) (i := i) (by omega) (by omega)
   have hol := zGb s i
   have hql := zGk l s i
   have hos := zNH s i
   have hqs := zNc l s i
   rw [← hQ1] at hol hos
   rw [← hQ2] at hql hqs
   clear hQ1 hQ2 hP hZ
   unfold zVp at hbe
   cases htb : s.testBit i
   ·rw [htb] at hbe hos hqs
    have hbe2 := hbe.trans (if_neg (by decide))
    clear hbe
    refine wk1 trivial ?_
    all_goals first | contradiction | omega | skip
    exact S8 (i' := i + 1) [some 0, some 1, some 2, some 3, some 4, some 5, some 8] [] (o) (q ++ [l.getD i default]) (by exact ⟨hos.symm, hqs.symm⟩)
   ·rw [htb] at hbe hos hqs
    have hbe2 := hbe.trans (if_pos rfl)
    clear hbe
    refine wk1 trivial ?_
    all_goals first | contradiction | omega | skip
    exact S8 (i' := i + 1) [some 0, some 1, some 2, some 3, some 4, some 8, some 6] [] (o ++ [i]) (q) (by exact ⟨hos.symm, hqs.symm⟩)
  ·have hil : i = l.length := by omega
   have hii : ¬ (i : Int) < (l.length : Int) := by omega
   have hol := zGb s i
   have hql := zGk l s i
   have hqv : ∀ x, x ∈ L7 l s i → ValidN x := fun x hx => by
    unfold L7 at hx
    obtain ⟨j, hj, rfl⟩ := List.mem_map.1 hx
    have := List.mem_range.1 (List.mem_filter.1 hj).1
    exact hv _ (u5 (by omega))
   rw [zNf hs2] at hP
   have e1 : zAK l s = q := by rw [hQ2, hil]; rfl
   have e2 : X7 l.length s = o := by rw [hQ1, hil]
   rw [e1, e2] at hP
   rw [← hQ1] at hol
   rw [← hQ2] at hql hqv
   clear hQ1 hQ2 e1 e2 hv
   have so := zOx q hqv (by omega)
   have htq : List.take q.length (List.map sV q) = List.map sV q := List.take_of_length_le (by simp)
   have hto : List.take o.length (List.map nV o) = List.map nV o := List.take_of_length_le (by simp)
   have hws : IntKind.i64.wrap ((s : Int) + 1) = ((s + 1 : Nat) : Int) := u6 (by omega)
   clear hqv
   cases hord : Q0 q
   ·rw [hord] at hP so
    have hP2 : y7 v9 Z (N6 l (s + 1)) = T := hP
    clear hord hP
    repeat' (first | ((with_reducible refine M0 [0, 1, 1, 1, 1, 0, 0, 1, 1, 0, 0, 1] ?_)) | (refine Qr rfl ?_; try intro _ hK; try simp only [go_sem, *]) | (refine Qi rfl rfl rfl rfl ?_ ?_ <;> (intro hb; (try intro _ hK); have hc := hb; try simp only [go_sem] at hc; simp only [go_sem, *])) | refine Qh rfl ?_ | (refine Qc rfl rfl ?_ ?_ <;> (intro hb; have hc := hb; try simp only [go_sem] at hc)) | refine z8 rfl ?_ | ((with_reducible apply And.intro); focus omega) | (refine z7 hK ?_; clear hK; simp only [go_sem, *]) | simp only [z6, z5, go_sem, *])
    all_goals first | contradiction | omega | skip
    refine ⟨?_⟩
    refine X5 (N := 44) (env := [(4, Z6 o), (5, y4 q), (11, iV s), (10, iV ((2 ^ l.length : Nat) : Int)), (0, .yld 0), (1, .ptr 4 0)]) (As := J5 fn Z ++ [.box [y4 l]]) [some 0, some 1, some 2, some 3, some 4] [5, 6] (by (simp only [Weak, go_sem, List.map_append, List.map_set, *] <;> (try simp (disch := omega) only [u6]) <;> (try simp) <;> (try omega))) ?_
    refine D6 5 rfl rfl rfl ?_
    simp only [List.take_succ_cons, List.take_zero, List.drop_succ_cons, List.drop_zero]
    refine wk1 so ?_
    all_goals first | contradiction | omega | skip
    refine zCr rfl rfl (by simp only [go_sem]) ?_
    refine wk1 trivial ?_
    all_goals first | contradiction | omega | skip
    exact r7 (i' := s + 1) [some 0, some 1, some 2, some 3, some 4] [] (Z) (by exact ⟨hP2, hZ⟩)
   ·rw [hord] at hP so
    have hP2 : y7 v9 (y7 v9 Z [o]) (N6 l (s + 1)) = T := by rw [← hP, ← B4]; rfl
    have hy := zRn fn Z o hZ (by omega)
    have hZ2 : ∀ b, y7 v9 Z [o] = some b → b.length ≤ 1000 := fun b hb2 => by
     rcases B5 hb2 with h | h
     ·exact hZ b h
     ·rw [List.mem_singleton.1 h]; omega
    generalize y7 v9 Z [o] = Z2 at *
    clear hord hP hZ
    repeat' (first | ((with_reducible refine M0 [0, 1, 1, 1, 1, 0, 0, 1, 1, 0, 0, 1] ?_)) | (refine Qr rfl ?_; try intro _ hK; try simp only [go_sem, *]) | (refine Qi rfl rfl rfl rfl ?_ ?_ <;> (intro hb; (try intro _ hK); have hc := hb; try simp only [go_sem] at hc; simp only [go_sem, *])) | refine Qh rfl ?_ | (refine Qc rfl rfl ?_ ?_ <;> (intro hb; have hc := hb; try simp only [go_sem] at hc)) | refine z8 rfl ?_ | ((with_reducible apply And.intro); focus omega) | (refine z7 hK ?_; clear hK; simp only [go_sem, *]) | simp only [z6, z5, go_sem, *])
    all_goals first | contradiction | omega | skip
    refine ⟨?_⟩
    refine X5 (N := 44) (env := [(4, Z6 o), (5, y4 q), (11, iV s), (10, iV ((2 ^ l.length : Nat) : Int)), (0, .yld 0), (1, .ptr 4 0)]) (As := J5 fn Z ++ [.box [y4 l]]) [some 0, some 1, some 2, some 3, some 4] [5, 6] (by (simp only [Weak, go_sem, List.map_append, List.map_set, *] <;> (try simp (disch := omega) only [u6]) <;> (try simp) <;> (try omega))) ?_
    refine D6 5 rfl rfl rfl ?_
    simp only [List.take_succ_cons, List.take_zero, List.drop_succ_cons, List.drop_zero]
    refine wk1 so ?_
    all_goals first | contradiction | omega | skip
    refine zCs rfl rfl (by simp only [go_sem]) ?_
    refine zBB [0, 1, 2, 3] [] hy rfl rfl (by simp) (by simp only [go_sem]) (by simp only [go_sem]) (by simp) (.inl rfl) (by simp [go_sem]) (by simp [go_sem]) ?_
    simp only [go_sem]
    refine wk1 trivial ?_
    all_goals first | contradiction | omega | skip
    exact r7 (i' := s + 1) [some 0, some 1, some 2, some 3, some 4] [] (Z2) (by exact ⟨hP2, hZ2⟩)
 ·rw [zNe hs2] at hP
  have hP2 : Z = T := by cases Z <;> exact hP
  subst hP2
  have hsi : ¬ (s : Int) < ((2 ^ l.length : Nat) : Int) := by omega
  clear hP
  refine wk1 trivial ?_
  all_goals first | contradiction | omega | skip
  refine ⟨[], [some 0, some 1, some 2, some 3, some 4], [], trivial, ?_⟩
  simp only [go_sem, Q9, *]
end Go.Abs

namespace Go.Abs
open Go Go.Proofs Tryz
attribute [local irreducible] q9 Hold y2
variable [Cur]
theorem zPb (l : List Str) (hv : ∀ s, s ∈ l → ValidN s) (h6 : l.length ≤ 6) :
  zUL prog 34 [.fn 31 [.ptr 0 0], N9] [.box [y4 l]] (.tup [U4 (X1 v9 (Y7 l)), bV (X1 v9 (Y7 l)).isSome]) [.box [y4 l]] := by
 have s1 := fun fn => zPB fn l hv h6 none (fun b h => by cases h)
 have e : X1 v9 (Y7 l) = y7 v9 none (Y7 l) := rfl
 rw [e]
 generalize y7 v9 none (Y7 l) = B at *
 clear hv e
 simp only [J5, List.cons_append, List.nil_append, Option.isSome_none] at s1
 refine z9 func34 rfl (fun E hE => ?_); simp only [go_sem, ntmps34]
 refine wk1 trivial ?_
 refine X5 (N := 23) (env := [(9, .fn 31 [.ptr 0 0]), (3, .ptr 1 0), (6, .ptr 2 0), (7, .ptr 3 0)]) (As := [.box [y4 l], .box [N9], .box [U4 none], .box [bV false]]) [some 0, some 1, some 2, some 3] [] (by (simp only [Weak, go_sem, List.map_append, List.map_set, *] <;> (try simp (disch := omega) only [u6]) <;> (try simp) <;> (try omega))) ?_
 refine zAz (f := 31) (caps := [.ptr 0 0]) rfl (by simp only [go_sem]) (by kernel_rfl) (nx := 4) (by simp only [go_sem]) (fun fn => ⟨5, ?_⟩)
 refine x7 [4, 1, 2, 3, 0] [] (s1 fn) (by simp) (by simp only [go_sem]) ?_ (by simp) (.inl rfl) (by simp [go_sem]) (by simp [go_sem]) ?_
 ·simp only [go_sem, *]
  first | rfl | exact ⟨rfl, rfl⟩
 ·simp only [go_sem, *]
  refine ⟨T9 fn, [(3, .ptr 1 0), (6, .ptr 2 0), (7, .ptr 3 0)], none, by simp only [go_sem], ?_⟩
  simp only [go_sem]
  refine wk1 trivial ?_
  refine ⟨[_, _], [some 0], [], ⟨rfl, rfl, trivial⟩, ?_⟩
  simp only [go_sem, *]
theorem zRi (l : List Str) : X1 v9 (Y7 l) = some (P9 l) := by
 have hl := (zIC l).1
 cases h : X1 v9 (Y7 l) with
 | some c =>
  have : P9 l = c := by unfold P9; rw [h]; rfl
  rw [this]
 | none =>
  exfalso
  have hm : P9 l ∈ Y7 l := mem_rightSets.2 hl
  have hne : Y7 l ≠ [] := fun e => by rw [e] at hm; cases hm
  obtain ⟨b, hb2, _⟩ := B7 (cmp := v9) (fun x y z => zFM) (fun x y => zES x y) hne
  rw [h] at hb2; cases hb2
theorem zPC (l : List Str) (q : a9 l = 0) : zUL prog 9 [y4 l] [] (.tup [Z6 (P9 l), iV 0]) [] := by
 have hv := zBd q
 have h6 := zC9 q
 have s1 := zDn l (by omega)
 rw [q] at s1
 have s2 := zPb l hv h6
 rw [zRi] at s2
 have s2 : zUL prog 34 [.fn 31 [.ptr 0 0], N9] [.box [y4 l]] (.tup [Z6 (P9 l), bV true]) [.box [y4 l]] := s2
 generalize P9 l = w at *
 clear hv q h6
 refine z9 func9 rfl (fun E hE => ?_); simp only [go_sem, ntmps9]
 refine wk1 (cc s1 (own [0] (s2))) ?_
 (refine ⟨[_, _], [], [], ⟨rfl, rfl, trivial⟩, ?_⟩; simp only [go_sem, *])
end Go.Abs

namespace Go.Abs
open Go Go.Proofs Tryz
attribute [local irreducible] q9 Hold y2
variable [Cur]
def K1 (s p : Str) : Str := if p.isPrefixOf s = true then s.drop p.length else s
theorem zO5 (s p : Str) (h1 : s.length ≤ 4294967296) (h2 : p.length ≤ 4294967296) : zUL prog 112 [sV s, sV p] [] (sV (K1 s p)) [] := by
 have sh := zHF s p h1 h2
 unfold K1
 cases q : p.isPrefixOf s
 ·rw [q] at sh
  rw [if_neg (by decide)]
  clear q
  refine z9 func112 rfl (fun E hE => ?_); simp only [go_sem, ntmps112]
  refine wk1 sh ?_
  (refine ⟨[_], [], [], ⟨rfl, trivial⟩, ?_⟩; simp only [go_sem, *])
 ·rw [q] at sh
  have hpl := zGg q
  rw [if_pos rfl]
  clear q
  refine z9 func112 rfl (fun E hE => ?_); simp only [go_sem, ntmps112]
  refine wk1 sh ?_
  (refine ⟨[_], [], [], ⟨rfl, trivial⟩, ?_⟩; simp only [go_sem, *])
theorem zO4 (s p : Str) (h1 : s.length ≤ 4294967296) (h2 : p.length ≤ 4294967296) : zUL prog 88 [sV s, sV p] [] (sV (K1 s p)) [] := by
 have sh := zO5 s p h1 h2
 generalize K1 s p = t at *
 refine z9 func88 rfl (fun E hE => ?_); simp only [go_sem, ntmps88]
 refine wk1 sh ?_
 (refine ⟨[_], [], [], ⟨rfl, trivial⟩, ?_⟩; simp only [go_sem, *])
theorem zRD (a : UInt8) (x : Str) : K1 (a :: x) [a] = x := by simp [K1]
theorem zRC {a c : UInt8} (h : ¬ a = c) (x : Str) : K1 (a :: x) [c] = a :: x := by
 have : ¬ c = a := fun e => h e.symm
 simp [K1, this]
theorem zMV {s : Str} (v : s.all x5 = true) {i : Nat} (h : i < s.length) : (s.getD i 0).toNat < 128 := by
 have hm : s.getD i 0 ∈ s := by simp [List.getD, h]
 have := List.all_eq_true.1 v _ hm
 unfold x5 at this
 simp only [Bool.and_eq_true, decide_eq_true_eq] at this
 omega
theorem zHT (k whole : Str) (hk0 : 0 < k.length) (hk1 : k.length ≤ 1000) (hw : whole.all x5 = true) (hw1 : whole.length ≤ 1000) : zUL prog 46 [sV k, sV whole] [] (bV (j4 k whole)) [] := by
  by_cases q1 : k.length < whole.length
  · have q1i : ¬ (k.length : Int) ≥ (whole.length : Int) := by omega
    by_cases q2 : k.getD 0 0 = whole.getD 0 0
    · have e : j4 k whole = zUz k whole := by
        unfold j4
        rw [decide_eq_true q1, q2]; simp
      rw [e]
      have hP0 : zUz k (whole.drop 0) = zUz k whole := rfl
      generalize zUz k whole = R at *
      have q2n : ((k.getD 0 0).toNat : Int) = (whole.getD 0 0).toNat := by rw [q2]
      have hwa := fun i => zMV (i := i) hw
      clear e q2 hw
      refine z9 func46 rfl (fun E hE => ?_); simp only [go_sem, ntmps46]
      refine wk1 trivial ?_
      all_goals first | contradiction | omega | skip
      refine Q8 rfl (whole.length) (fun i (rest : Str) => 0 < rest.length ∧ rest.length ≤ 1000 ∧ zUz rest (whole.drop i) = R) 32 (fun i rest => [(22, .ptr 0 0), (5, sV rest)]) (fun i rest => [.siter ⟨whole.toArray⟩ i]) [some 0] [] (k) (by exact ⟨hk0, hk1, hP0⟩) ?_; intro i rest hi hP
      clear hP0 q2n
      obtain ⟨hr0, hr1, hP⟩ := hP
      obtain ⟨a, x, rfl⟩ : ∃ a x, rest = a :: x := by
        cases rest with
        | nil => simp at hr0
        | cons a x => exact ⟨a, x, rfl⟩
      by_cases hi2 : i < whole.length
      · have ha := hwa i hi2
        have hd := zBM hi2 ha
        have ee := zEr (n := ((whole.getD i 0).toNat : Int)) (by omega) (by omega)
        rw [Int.toNat_natCast, UInt8.ofNat_toNat] at ee
        have st := zO4 (a :: x) [whole.getD i 0] (by omega) (by simp)
        rw [o5 hi2] at hP
        have hP : (if a = whole.getD i default then zUz x (whole.drop (i + 1)) else zUz (a :: x) (whole.drop (i + 1))) = R := hP
        have hdef : whole.getD i default = whole.getD i 0 := rfl
        rw [hdef] at hP
        clear hdef hwa
        generalize whole.getD i 0 = c at *
        generalize he : Utf8.encode (c.toNat : Int) = eb at *
        have st : zUL prog 88 [sV (a :: x), .raw (.string eb)] [] (sV (K1 (a :: x) [c])) [] := by rw [ee]; exact st
        clear ee
        by_cases hac : a = c
        · subst hac
          rw [if_pos rfl] at hP
          rw [zRD] at st
          cases x with
          | nil =>
            have hP : true = R := by rw [← hP]; cases whole.drop (i + 1) <;> rfl
            subst hP
            repeat' (first | (refine Qr rfl ?_; try intro _ hK; try simp only [go_sem, *]) | (refine Qi rfl rfl rfl rfl ?_ ?_ <;> (intro hb; (try intro _ hK); have hc := hb; try simp only [go_sem] at hc; simp only [go_sem, *])) | refine Qh rfl ?_ | refine Qd rfl (by kernel_rfl) ?_ | (refine Qc rfl rfl ?_ ?_ <;> (intro hb; have hc := hb; try simp only [go_sem] at hc)) | refine z8 rfl ?_ | (refine Qb ?_ ?_; focus kernel_rfl) | (refine y6 (st) ?_; simp only [go_sem, *]) | ((with_reducible apply And.intro); focus omega) | (refine z7 hK ?_; clear hK; simp only [go_sem, *]) | simp only [z6, z5, go_sem, *])
            all_goals ((try clear hd he); first | contradiction | skip)
            (refine ⟨[_], [], [], ⟨rfl, trivial⟩, ?_⟩; simp only [go_sem, *])
          | cons b y =>
            have hr1' : (b :: y).length ≤ 1000 := by simp at hr1 ⊢; omega
            clear hr0 hr1
            repeat' (first | (refine Qr rfl ?_; try intro _ hK; try simp only [go_sem, *]) | (refine Qi rfl rfl rfl rfl ?_ ?_ <;> (intro hb; (try intro _ hK); have hc := hb; try simp only [go_sem] at hc; simp only [go_sem, *])) | refine Qh rfl ?_ | refine Qd rfl (by kernel_rfl) ?_ | (refine Qc rfl rfl ?_ ?_ <;> (intro hb; have hc := hb; try simp only [go_sem] at hc)) | refine z8 rfl ?_ | (refine Qb ?_ ?_; focus kernel_rfl) | (refine y6 (st) ?_; simp only [go_sem, *]) | ((with_reducible apply And.intro); focus omega) | (refine z7 hK ?_; clear hK; simp only [go_sem, *]) | simp only [z6, z5, go_sem, *])
            all_goals ((try clear hd he); first | contradiction | skip)
            exact r7 (i' := i + 1) [some 0] [] (b :: y) (by exact ⟨by simp, hr1', hP⟩)
        · rw [if_neg hac] at hP
          rw [zRC hac] at st
          clear hac
          repeat' (first | (refine Qr rfl ?_; try intro _ hK; try simp only [go_sem, *]) | (refine Qi rfl rfl rfl rfl ?_ ?_ <;> (intro hb; (try intro _ hK); have hc := hb; try simp only [go_sem] at hc; simp only [go_sem, *])) | refine Qh rfl ?_ | refine Qd rfl (by kernel_rfl) ?_ | (refine Qc rfl rfl ?_ ?_ <;> (intro hb; have hc := hb; try simp only [go_sem] at hc)) | refine z8 rfl ?_ | (refine Qb ?_ ?_; focus kernel_rfl) | (refine y6 (st) ?_; simp only [go_sem, *]) | ((with_reducible apply And.intro); focus omega) | (refine z7 hK ?_; clear hK; simp only [go_sem, *]) | simp only [z6, z5, go_sem, *])
          all_goals ((try clear hd he); first | contradiction | skip)
          exact r7 (i' := i + 1) [some 0] [] (a :: x) (by exact ⟨hr0, hr1, hP⟩)
      · rw [Z5 (by omega)] at hP
        have hP : false = R := hP
        subst hP
        clear hwa
        refine wk1 trivial ?_
        all_goals first | contradiction | omega | skip
        (refine ⟨[_], [], [], ⟨rfl, trivial⟩, ?_⟩; simp only [go_sem, *])
    · have e : j4 k whole = false := by
        unfold j4
        rw [show (k.getD 0 0 == whole.getD 0 0) = false by simpa using q2]; simp
      rw [e]
      have q2n : ¬ ((k.getD 0 0).toNat : Int) = (whole.getD 0 0).toNat := fun h => q2 (UInt8.toNat_inj.1 (by omega))
      clear e q2 hw
      refine z9 func46 rfl (fun E hE => ?_); simp only [go_sem, ntmps46]
      refine wk1 trivial ?_
      all_goals first | contradiction | omega | skip
      (refine ⟨[_], [], [], ⟨rfl, trivial⟩, ?_⟩; simp only [go_sem, *])
  · have e : j4 k whole = false := by
      unfold j4
      rw [decide_eq_false q1]; rfl
    rw [e]
    clear e hw
    have q1i : (k.length : Int) ≥ (whole.length : Int) := by omega
    refine z9 func46 rfl (fun E hE => ?_); simp only [go_sem, ntmps46]
    refine wk1 trivial ?_
    all_goals first | contradiction | omega | skip
    (refine ⟨[_], [], [], ⟨rfl, trivial⟩, ?_⟩; simp only [go_sem, *])
end Go.Abs

namespace Go.Abs
open Go Go.Proofs Tryz
attribute [local irreducible] q9 Hold y2
variable [Cur]
def zUx (k own s : Str) : Bool := !(decide (zUN s = own)) && j4 k (zUN s)
theorem zPv (k own s : Str) (hk0 : 0 < k.length) (hk1 : k.length ≤ 1000) (v : ValidN s) : zUL prog 103 [sV s, .ptr 0 0, .ptr 1 0] [.box [sV own], .box [sV k]] (bV (zUx k own s)) [.box [sV own], .box [sV k]] := by
 have so := H6 s v.form (by have := v.len; omega)
 have hkl := A4 v
 unfold x6 at hkl
 simp only [Bool.and_eq_true, decide_eq_true_eq] at hkl
 have ss := zHT k (zUN s) hk0 hk1 hkl.2.2 (by omega)
 unfold zUx
 generalize zUN s = ks at *
 generalize j4 k ks = b at *
 clear hkl v hk0
 by_cases q : ks = own
 ·have e : (!decide (ks = own) && b) = false := by rw [decide_eq_true q]; rfl
  rw [e]
  subst q
  clear e ss
  refine z9 func103 rfl (fun E hE => ?_); simp only [go_sem, ntmps103]
  refine wk1 so ?_
  refine ⟨[_], [some 0, some 1], [], ⟨rfl, trivial⟩, ?_⟩
  simp only [go_sem, *]
 ·have e : (!decide (ks = own) && b) = b := by rw [decide_eq_false q]; rfl
  rw [e]
  clear e
  refine z9 func103 rfl (fun E hE => ?_); simp only [go_sem, ntmps103]
  refine wk1 (cc so ss) ?_
  refine ⟨[_], [some 0, some 1], [], ⟨rfl, trivial⟩, ?_⟩
  simp only [go_sem, *]
def zU4 (p : Str → Bool) : List Str → Nat → Int
 | [], _ => -1
 | x :: r, i => if p x = true then (i : Int) else zU4 p r (i + 1)
theorem zFi (p : Str → Bool) : ∀ (l : List Str) (i : Nat), decide (zU4 p l i ≥ 0) = l.any p
 | [], i => by simp [zU4]
 | x :: r, i => by
  rw [zU4, List.any_cons]
  cases hp : p x with
  | true => simp
  | false => rw [if_neg (by decide), zFi p r (i + 1), Bool.false_or]
theorem zOw (k own : Str) (l : List Str) (hk0 : 0 < k.length) (hk1 : k.length ≤ 1000) (hv : ∀ s, s ∈ l → ValidN s) (hl : l.length ≤ 1000) :
  zUL prog 132 [y4 l, .fn 103 [.ptr 0 0, .ptr 1 0]] [.box [sV own], .box [sV k]] (iV (zU4 (zUx k own) l 0)) [.box [sV own], .box [sV k]] := by
 have hca : y9 prog 103 = true := by kernel_rfl
 have h0 : zU4 (zUx k own) (l.drop 0) 0 = zU4 (zUx k own) l 0 := rfl
 generalize zU4 (zUx k own) l 0 = T at *
 have sm := fun s v => zPv k own s hk0 hk1 v
 refine z9 func132 rfl (fun E hE => ?_); simp only [go_sem, ntmps132]
 refine wk1 trivial ?_
 refine x8 rfl (l.length) (fun i => zU4 (zUx k own) (l.drop i) i = T) 19 (fun i => [(8, iV i), (7, iV l.length), (0, y4 l), (1, .fn 103 [.ptr 0 0, .ptr 1 0])]) (fun i => [.box [sV own], .box [sV k]]) [some 0, some 1] [] (by exact h0) ?_; intro i hi hP
 clear h0
 by_cases hi2 : i < l.length
 ·have sc := sm _ (hv _ (u5 hi2))
  rw [o5 hi2, zU4] at hP
  generalize hm : zUx k own (l.getD i default) = b at *
  clear hm
  cases b
  ·have hP : zU4 (zUx k own) (l.drop (i + 1)) (i + 1) = T := hP
   clear sm
   repeat' (first | (refine Qr rfl ?_; try intro _ hK; try simp only [go_sem, *]) | refine Qh rfl ?_ | (refine Qc rfl rfl ?_ ?_ <;> (intro hb; have hc := hb; try simp only [go_sem] at hc)) | refine z8 rfl ?_ | (refine u9 [0, 1] (sc) ?_; simp only [go_sem, *]) | ((with_reducible apply And.intro); focus omega) | (refine z7 hK ?_; clear hK; simp only [go_sem, *]) | simp only [z6, z5, go_sem, *])
   all_goals first | contradiction | omega | skip
   exact y8 (i' := i + 1) [some 0, some 1] [] (by exact hP)
  ·have hP : (i : Int) = T := hP
   subst hP
   clear sm
   repeat' (first | (refine Qr rfl ?_; try intro _ hK; try simp only [go_sem, *]) | refine Qh rfl ?_ | (refine Qc rfl rfl ?_ ?_ <;> (intro hb; have hc := hb; try simp only [go_sem] at hc)) | refine z8 rfl ?_ | (refine u9 [0, 1] (sc) ?_; simp only [go_sem, *]) | ((with_reducible apply And.intro); focus omega) | (refine z7 hK ?_; clear hK; simp only [go_sem, *]) | simp only [z6, z5, go_sem, *])
   all_goals first | contradiction | omega | skip
   refine ⟨[_], [some 0, some 1], [], ⟨rfl, trivial⟩, ?_⟩
   simp only [go_sem, *]
 ·rw [Z5 (by omega)] at hP
  have hP : (-1 : Int) = T := hP
  subst hP
  clear sm
  refine wk1 trivial ?_
  all_goals first | contradiction | omega | skip
  refine ⟨[_], [some 0, some 1], [], ⟨rfl, trivial⟩, ?_⟩
  simp only [go_sem, *]
theorem zOg (k own : Str) (l : List Str) (hk0 : 0 < k.length) (hk1 : k.length ≤ 1000) (hv : ∀ s, s ∈ l → ValidN s) (hl : l.length ≤ 1000) :
  zUL prog 102 [y4 l, .fn 103 [.ptr 0 0, .ptr 1 0]] [.box [sV own], .box [sV k]] (bV (l.any (zUx k own))) [.box [sV own], .box [sV k]] := by
 have si := zOw k own l hk0 hk1 hv hl
 rw [← zFi (zUx k own) l 0]
 generalize zU4 (zUx k own) l 0 = n at *
 clear hv
 refine z9 func102 rfl (fun E hE => ?_); simp only [go_sem, ntmps102]
 repeat' (first | (refine Qr rfl ?_; try intro _ hK; try simp only [go_sem, *]) | refine Qh rfl ?_ | (refine Qc rfl rfl ?_ ?_ <;> (intro hb; have hc := hb; try simp only [go_sem] at hc)) | refine z8 rfl ?_ | (refine u9 [0, 1] (si) ?_; simp only [go_sem, *]) | ((with_reducible apply And.intro); focus omega) | (refine z7 hK ?_; clear hK; simp only [go_sem, *]) | simp only [z6, z5, go_sem, *])
 refine ⟨[_], [some 0, some 1], [], ⟨rfl, trivial⟩, ?_⟩
 simp only [go_sem, *]
theorem zPw (k own : Str) (l : List Str) (hk0 : 0 < k.length) (hk1 : k.length ≤ 1000) (hv : ∀ s, s ∈ l → ValidN s) (hl : l.length ≤ 1000) :
  zUL prog 81 [sV k, y4 l, sV own] [] (bV (W8 k l own)) [] := by
 have sc := zOg k own l hk0 hk1 hv hl
 have e : W8 k l own = l.any (zUx k own) := rfl
 rw [e]
 clear e hv
 generalize l.any (zUx k own) = b at *
 refine z9 func81 rfl (fun E hE => ?_); simp only [go_sem, ntmps81]
 repeat' (first | (refine Qr rfl ?_; try intro _ hK; try simp only [go_sem, *]) | refine Qh rfl ?_ | (refine Qc rfl rfl ?_ ?_ <;> (intro hb; have hc := hb; try simp only [go_sem] at hc)) | refine z8 rfl ?_ | (refine u9 [1, 0] (sc) ?_; simp only [go_sem, *]) | ((with_reducible apply And.intro); focus omega) | (refine z7 hK ?_; clear hK; simp only [go_sem, *]) | simp only [z6, z5, go_sem, *])
 (refine ⟨[_], [], [], ⟨rfl, trivial⟩, ?_⟩; simp only [go_sem, *])
end Go.Abs

namespace Go.Abs
open Go Go.Proofs Tryz
attribute [local irreducible] q9 Hold y2
variable [Cur]
abbrev zEi (now : Str) (i : Nat) : List AV := [sV now, iV i, .ptr 0 0, .ptr 1 0, .ptr 2 0]
abbrev J0 (k : Str) (m : List Str) : List AObj := [.box [sV k], .box [.mp 3], .box [.fn 104 [.ptr 0 0, .ptr 1 0, .ptr 2 0]], .mapo (m.map zUX) (m.map fun _ => bV true)]
def SmallL (m : List Str) : Prop := ∀ x, x ∈ m → x.length ≤ 1000
theorem SmallL.met {k now : Str} {m : List Str} (h : SmallL m) (hn : now.length ≤ 1000) : SmallL (zUs k m now) := fun x hx => by
 rcases mem_metC.1 hx with hx | ⟨rfl, _⟩
 ·exact h x hx
 ·exact hn
theorem SmallL.go {k now : Str} {m : List Str} {n i : Nat} (h : SmallL m) (hk : k.length ≤ 1000) (hi : k.length - i ≤ n) : SmallL (goC k n m now i) := fun x hx => by
 rcases (zDI hi).1 hx with hx | ⟨t, _, _, hl⟩
 ·exact h x hx
 ·omega
theorem zHN (k : Str) (hk : k.length ≤ 1000) : ∀ (n : Nat) (m : List Str) (now : Str) (i : Nat), k.length - i ≤ n → now.length ≤ i → i ≤ k.length → SmallL m →
  zUL prog 104 (zEi now i) (J0 k m) (.tup []) (J0 k (goC k n m now i))
 | 0, m, now, i, hn, h1, h2, hs => by
  have hi : i = k.length := by omega
  subst hi
  have e : goC k 0 m now k.length = zUs k m now := rfl
  rw [e]
  clear e
  unfold zUs
  by_cases q : now.length < k.length
  ·rw [if_pos q]
   have qi : (now.length : Int) < (k.length : Int) := by omega
   refine z9 func104 rfl (fun E hE => ?_); simp only [go_sem, ntmps104]
   repeat' (first | (refine Qr rfl ?_; try intro _ hK; try simp only [go_sem, *]) | refine Qh rfl ?_ | refine Qd rfl (by kernel_rfl) ?_ | (refine Qc rfl rfl ?_ ?_ <;> (intro hb; have hc := hb; try simp only [go_sem] at hc)) | refine z8 rfl ?_ | (refine Qb ?_ ?_; focus kernel_rfl) | ((with_reducible apply And.intro); focus omega) | (refine z7 hK ?_; clear hK; simp only [go_sem, *]) | simp only [z6, z5, go_sem, *])
   all_goals first | contradiction | omega | skip
   refine zD4 hs (by omega) (by simp only [go_sem]) ?_
   repeat' (first | (refine Qr rfl ?_; try intro _ hK; try simp only [go_sem, *]) | refine Qh rfl ?_ | refine Qd rfl (by kernel_rfl) ?_ | (refine Qc rfl rfl ?_ ?_ <;> (intro hb; have hc := hb; try simp only [go_sem] at hc)) | refine z8 rfl ?_ | (refine Qb ?_ ?_; focus kernel_rfl) | ((with_reducible apply And.intro); focus omega) | (refine z7 hK ?_; clear hK; simp only [go_sem, *]) | simp only [z6, z5, go_sem, *])
   refine x8 rfl (1) (fun t => NoQ t) 33 (fun t => [(7, iV k.length), (0, sV now), (2, .ptr 0 0), (3, .ptr 1 0), (4, .ptr 2 0)]) (fun t => J0 k (zU1 m now)) [some 0, some 1, some 2, some 3] [] (by trivial) ?_; intro t ht hP
   repeat' (first | (refine Qr rfl ?_; try intro _ hK; try simp only [go_sem, *]) | refine Qh rfl ?_ | refine Qd rfl (by kernel_rfl) ?_ | (refine Qc rfl rfl ?_ ?_ <;> (intro hb; have hc := hb; try simp only [go_sem] at hc)) | refine z8 rfl ?_ | (refine Qb ?_ ?_; focus kernel_rfl) | ((with_reducible apply And.intro); focus omega) | (refine z7 hK ?_; clear hK; simp only [go_sem, *]) | simp only [z6, z5, go_sem, *])
   all_goals first | contradiction | omega | skip
   refine ⟨[], [some 0, some 1, some 2, some 3], [], trivial, ?_⟩
   simp only [go_sem, Q9, *]
  ·rw [if_neg q]
   have qi : ¬ (now.length : Int) < (k.length : Int) := by omega
   refine z9 func104 rfl (fun E hE => ?_); simp only [go_sem, ntmps104]
   refine wk1 trivial ?_
   all_goals first | contradiction | omega | skip
   refine x8 rfl (1) (fun t => NoQ t) 33 (fun t => [(7, iV k.length), (0, sV now), (2, .ptr 0 0), (3, .ptr 1 0), (4, .ptr 2 0)]) (fun t => J0 k m) [some 0, some 1, some 2, some 3] [] (by trivial) ?_; intro t ht hP
   repeat' (first | (refine Qr rfl ?_; try intro _ hK; try simp only [go_sem, *]) | refine Qh rfl ?_ | refine Qd rfl (by kernel_rfl) ?_ | (refine Qc rfl rfl ?_ ?_ <;> (intro hb; have hc := hb; try simp only [go_sem] at hc)) | refine z8 rfl ?_ | (refine Qb ?_ ?_; focus kernel_rfl) | ((with_reducible apply And.intro); focus omega) | (refine z7 hK ?_; clear hK; simp only [go_sem, *]) | simp only [z6, z5, go_sem, *])
   all_goals first | contradiction | omega | skip
   refine ⟨[], [some 0, some 1, some 2, some 3], [], trivial, ?_⟩
   simp only [go_sem, Q9, *]
 | n + 1, m, now, i, hn, h1, h2, hs => by
  have hca : y9 prog 104 = true := by kernel_rfl
  have IH := zHN k hk n
  rw [zCp]
  have hs2 : SmallL (zUs k m now) := hs.met (by omega)
  obtain ⟨T, hT⟩ : ∃ T, R8 k n (zUs k m now) now (i + 0) = T := ⟨_, rfl⟩
  have hT0 : R8 k n (zUs k m now) now i = T := hT
  rw [hT0]
  clear hT0
  unfold zUs at hT hs2
  by_cases q : now.length < k.length
  ·rw [if_pos q] at hT hs2
   have qi : (now.length : Int) < (k.length : Int) := by omega
   refine z9 func104 rfl (fun E hE => ?_); simp only [go_sem, ntmps104]
   repeat' (first | (refine Qr rfl ?_; try intro _ hK; try simp only [go_sem, *]) | refine Qh rfl ?_ | refine Qd rfl (by kernel_rfl) ?_ | (refine Qc rfl rfl ?_ ?_ <;> (intro hb; have hc := hb; try simp only [go_sem] at hc)) | refine z8 rfl ?_ | (refine Qb ?_ ?_; focus kernel_rfl) | ((with_reducible apply And.intro); focus omega) | (refine z7 hK ?_; clear hK; simp only [go_sem, *]) | simp only [z6, z5, go_sem, *])
   all_goals first | contradiction | omega | skip
   refine zD4 hs (by omega) (by simp only [go_sem]) ?_
   repeat' (first | (refine Qr rfl ?_; try intro _ hK; try simp only [go_sem, *]) | refine Qh rfl ?_ | refine Qd rfl (by kernel_rfl) ?_ | (refine Qc rfl rfl ?_ ?_ <;> (intro hb; have hc := hb; try simp only [go_sem] at hc)) | refine z8 rfl ?_ | (refine Qb ?_ ?_; focus kernel_rfl) | ((with_reducible apply And.intro); focus omega) | (refine z7 hK ?_; clear hK; simp only [go_sem, *]) | simp only [z6, z5, go_sem, *])
   refine Q8 rfl (k.length - i) (fun t (z : List Str) => R8 k n z now (i + t) = T ∧ SmallL z) 33 (fun t z => [(7, iV ((i + t : Nat) : Int)), (0, sV now), (2, .ptr 0 0), (3, .ptr 1 0), (4, .ptr 2 0)]) (fun t z => J0 k z) [some 0, some 1, some 2, some 3] [] (zU1 m now) (by exact ⟨hT, hs2⟩) ?_; intro t z ht hP
   clear hT hs2 hs
   obtain ⟨hP, hz⟩ := hP
   generalize hjj : i + t = j at *
   by_cases hj : j < k.length
   ·rw [zCo hj] at hP
    have sI := IH z (now ++ [k.getD j 0]) (j + 1) (by omega) (by simp; omega) (by omega) hz
    have hz2 : SmallL (goC k n z (now ++ [k.getD j 0]) (j + 1)) := hz.go hk (by omega)
    have hdt := zCZ hj
    have hji : (j : Int) < (k.length : Int) := by omega
    have hwj : IntKind.i64.wrap ((j : Int) + 1) = ((j + 1 : Nat) : Int) := u6 (by omega)
    have hnx : i + (t + 1) = j + 1 := by omega
    generalize goC k n z (now ++ [k.getD j 0]) (j + 1) = z2 at *
    clear IH hz
    repeat' (first | (refine Qr rfl ?_; try intro _ hK; try simp only [go_sem, *]) | refine Qh rfl ?_ | refine Qd rfl (by kernel_rfl) ?_ | (refine Qc rfl rfl ?_ ?_ <;> (intro hb; have hc := hb; try simp only [go_sem] at hc)) | refine z8 rfl ?_ | (refine Qb ?_ ?_; focus kernel_rfl) | ((with_reducible apply And.intro); focus omega) | (refine z7 hK ?_; clear hK; simp only [go_sem, *]) | simp only [z6, z5, go_sem, *])
    refine u9 [0, 1, 2, 3] sI ?_
    simp only [go_sem, *]
    repeat' (first | (refine Qr rfl ?_; try intro _ hK; try simp only [go_sem, *]) | refine Qh rfl ?_ | refine Qd rfl (by kernel_rfl) ?_ | (refine Qc rfl rfl ?_ ?_ <;> (intro hb; have hc := hb; try simp only [go_sem] at hc)) | refine z8 rfl ?_ | (refine Qb ?_ ?_; focus kernel_rfl) | ((with_reducible apply And.intro); focus omega) | (refine z7 hK ?_; clear hK; simp only [go_sem, *]) | simp only [z6, z5, go_sem, *])
    all_goals first | contradiction | omega | skip
    exact r7 (i' := t + 1) [some 0, some 1, some 2, some 3] [] (z2) (by rw [hnx]; exact ⟨hP, hz2⟩)
   ·rw [zBW (by omega)] at hP
    subst hP
    have hji : ¬ (j : Int) < (k.length : Int) := by omega
    clear IH hz
    refine wk1 trivial ?_
    all_goals first | contradiction | omega | skip
    refine ⟨[], [some 0, some 1, some 2, some 3], [], trivial, ?_⟩
    simp only [go_sem, Q9, *]
  ·rw [if_neg q] at hT hs2
   have qi : ¬ (now.length : Int) < (k.length : Int) := by omega
   have hik : i = k.length := by omega
   rw [zBW (by omega)] at hT
   subst hT
   subst hik
   clear IH
   refine z9 func104 rfl (fun E hE => ?_); simp only [go_sem, ntmps104]
   refine wk1 trivial ?_
   all_goals first | contradiction | omega | skip
   refine x8 rfl (1) (fun t => NoQ t) 33 (fun t => [(7, iV k.length), (0, sV now), (2, .ptr 0 0), (3, .ptr 1 0), (4, .ptr 2 0)]) (fun t => J0 k m) [some 0, some 1, some 2, some 3] [] (by trivial) ?_; intro t ht hP
   repeat' (first | (refine Qr rfl ?_; try intro _ hK; try simp only [go_sem, *]) | refine Qh rfl ?_ | refine Qd rfl (by kernel_rfl) ?_ | (refine Qc rfl rfl ?_ ?_ <;> (intro hb; have hc := hb; try simp only [go_sem] at hc)) | refine z8 rfl ?_ | (refine Qb ?_ ?_; focus kernel_rfl) | ((with_reducible apply And.intro); focus omega) | (refine z7 hK ?_; clear hK; simp only [go_sem, *]) | simp only [z6, z5, go_sem, *])
   all_goals first | contradiction | omega | skip
   refine ⟨[], [some 0, some 1, some 2, some 3], [], trivial, ?_⟩
   simp only [go_sem, Q9, *]
end Go.Abs

namespace Go.Abs
open Go Go.Proofs Tryz
attribute [local irreducible] q9 Hold y2
variable [Cur]
def Bc : Nat → Nat
 | 0 => 1
 | n + 1 => 1 + (n + 1) * Bc n
theorem zIL : ∀ n, n < 13 → Bc n ≤ 2000000000 := by decide
theorem zGI (k : Str) (m : List Str) (now : Str) : (zUs k m now).length ≤ m.length + 1 := by
 unfold zUs zU1
 split
 ·split
  ·omega
  ·simp
 ·omega
theorem zFO (k : Str) : ∀ (n : Nat) (m : List Str) (now : Str) (i : Nat), k.length - i ≤ n → (goC k n m now i).length ≤ m.length + Bc n
 | 0, m, now, i, _ => zGI k m now
 | n + 1, m, now, i, h => by
  have key : ∀ (c : Nat) (i : Nat) (m : List Str), k.length - i = c → c ≤ n + 1 → (R8 k n m now i).length ≤ m.length + c * Bc n := by
   intro c
   induction c with
   | zero => intro i m h1 _; rw [zBW (by omega)]; omega
   | succ c ih =>
    intro i m h1 h2
    rw [zCo (by omega)]
    have a := ih (i + 1) (goC k n m (now ++ [k.getD i 0]) (i + 1)) (by omega) (by omega)
    have b := zFO k n m (now ++ [k.getD i 0]) (i + 1) (by omega)
    have e : (c + 1) * Bc n = c * Bc n + Bc n := Nat.succ_mul _ _
    omega
  rw [zCp]
  have a := key (k.length - i) i (zUs k m now) rfl h
  have b := zGI k m now
  have d : (k.length - i) * Bc n ≤ (n + 1) * Bc n := Nat.mul_le_mul_right _ h
  have e : Bc (n + 1) = 1 + (n + 1) * Bc n := rfl
  omega
theorem zEj {k : Str} (hk : k.length ≤ 12) (hk0 : 0 < k.length) : (J2 k).length ≤ 2000000000 := by
 have a := zFO k k.length [] (k.take 1) 1 (by omega)
 have b := zIL k.length (by omega)
 have e : J2 k = goC k k.length [] (k.take 1) 1 := rfl
 rw [e]; simp only [List.length_nil] at a; omega
theorem zDF {α β : Type} (f : α → β) : ∀ (l : List α) (i : Nat), (l.eraseIdx i).map f = (l.map f).eraseIdx i
 | [], _ => rfl
 | _ :: _, 0 => rfl
 | x :: r, i + 1 => by simp [zDF f r i]
theorem zEw {α : Type} : ∀ (l : List α) (i : Nat) (h : i < l.length), l.Perm (l[i] :: l.eraseIdx i)
 | x :: r, 0, _ => .refl _
 | x :: r, i + 1, h => by
  have := zEw r i (by simpa using h)
  exact (this.cons x).trans (List.Perm.swap _ _ _)
theorem zPX (k : Str) (hk0 : 0 < k.length) (hk : k.length ≤ 12) :
  C3 (T := {L : List Str // (∀ s, s ∈ L ↔ T6 k s) ∧ L.length ≤ 2000000000}) prog 82 [sV k] [] (fun L => .own 0 1 0 L.1.length) (fun L => [.row 1 (L.1.map sV)]) := by
 have hca : y9 prog 104 = true := by kernel_rfl
 have sc : zUL prog 104 (zEi (k.take 1) 1) (J0 k []) (.tup []) (J0 k (J2 k)) := zHN k (by omega) k.length [] (k.take 1) 1 (by omega) (by simp; omega) (by omega) (fun x hx => by cases hx)
 have hmem := fun x => zGH (k := k) (x := x)
 have hsm : SmallL (J2 k) := SmallL.go (fun x hx => by cases hx) (by omega) (by omega)
 have hML := zEj hk hk0
 have hmt : (zVQ prog 206).isSome = true := by kernel_rfl
 generalize J2 k = M at *
 refine zQK func82 rfl (fun E hE => ?_); simp only [go_sem, ntmps82]
 repeat' (first | (refine Qr rfl ?_; try intro _ hK; try simp only [go_sem, *]) | (refine Qi rfl rfl rfl rfl ?_ ?_ <;> (intro hb; (try intro _ hK); have hc := hb; try simp only [go_sem] at hc; simp only [go_sem, *])) | refine Qh rfl ?_ | refine Qd rfl (by kernel_rfl) ?_ | (refine Qc rfl rfl ?_ ?_ <;> (intro hb; have hc := hb; try simp only [go_sem] at hc)) | refine z8 rfl ?_ | (refine Qb ?_ ?_; focus kernel_rfl) | ((with_reducible apply And.intro); focus omega) | (refine z7 hK ?_; clear hK; simp only [go_sem, *]) | simp only [z6, z5, go_sem, *])
 refine u9 [0, 2, 3, 1] sc ?_
 simp only [go_sem, *]
 refine z7 hK ?_
 clear hK
 simp only [go_sem, *]
 repeat' (first | (refine Qr (ops := _ :: _) rfl ?_; try intro _ hK; try simp only [go_sem, *]) | (refine Qi rfl rfl rfl rfl ?_ ?_ <;> (intro hb; (try intro _ hK); have hc := hb; try simp only [go_sem] at hc; simp only [go_sem, *])) | (refine Qb ?_ ?_; focus kernel_rfl) | ((with_reducible apply And.intro); focus omega) | (refine z7 hK ?_; clear hK; simp only [go_sem, *]) | simp only [z6, z5, go_sem, *])
 refine w7 ?_
 refine Qb ?_ ?_
 focus kernel_rfl
 try simp only [z6, z5, go_sem, *]
 refine X5 (N := 24) (env := [(3, .ptr 0 0)]) (As := [.box [.fmap (M.map zUX) (M.map fun _ => bV true)]]) [some 2] [1] (by (simp only [Weak, go_sem, List.map_append, List.map_set, *] <;> (try simp (disch := omega) only [u6]) <;> (try simp) <;> (try omega))) ?_
 refine wk1 trivial ?_
 clear sc hsm
 refine A6 rfl (M.length) (fun i (cur : Option (Value × AV)) (S : List Str × List Str) => S.1.length + i = M.length ∧ S.2.length = i ∧ ∀ x, (x ∈ S.2 ∨ x ∈ S.1) ↔ x ∈ M) 24 (fun i cur S => [(14, .ptr 0 0), (5, .own 1 1 0 i)]) (fun i cur S => [.iter cur (S.1.map zUX) (S.1.map fun _ => bV true), .row 1 (S.2.map sV)]) [some 1, none] [] (none) ((M, [])) (by exact ⟨by simp, rfl, fun x => by simp⟩) ?_; intro i cur S hi hP
 obtain ⟨rem, acc⟩ := S
 simp only at hP ⊢
 refine zBs rfl ?_
 refine zN7 (o := 0) rfl rfl rfl rfl rfl rfl rfl cur (rem.map zUX) (rem.map fun _ => bV true) (by simp only [go_sem]) (by simp only [go_sem]) (show (15 : Nat) < 24 by decide) (show (16 : Nat) < 24 by decide) (fun hk0 _ => ?_) (fun r hr1 hr2 => ?_)
 ·obtain rfl : rem = [] := by simpa using hk0
  obtain ⟨h1, h2, h3⟩ := hP
  have hL : ∀ s, s ∈ acc ↔ T6 k s := fun s => by rw [← hmem, ← h3]; simp
  have hLl : acc.length ≤ 2000000000 := by simp only [List.length_nil] at h1; omega
  clear hmem h3
  simp only [go_sem]
  refine wk1 trivial ?_
  refine ⟨⟨acc, hL, hLl⟩, [_], [some 1], [], ⟨rfl, trivial⟩, ?_⟩
  simp only [go_sem, *]
 ·have hr : r < rem.length := by simpa using hr1
  have e1 : (rem.map zUX)[r] = zUX rem[r] := by simp
  have e2 : (rem.map fun _ => bV true)[r] = bV true := by simp
  have e3 : (rem.map zUX).eraseIdx r = (rem.eraseIdx r).map zUX := (zDF zUX rem r).symm
  have e4 : (rem.map fun _ => bV true).eraseIdx r = (rem.eraseIdx r).map fun _ => bV true := (zDF _ rem r).symm
  rw [e1, e2, e3, e4]
  have hq : (rem[r] :: rem.eraseIdx r).Perm rem := (zEw rem r hr).symm
  have hel : (rem.eraseIdx r).length = rem.length - 1 := List.length_eraseIdx_of_lt hr
  clear e1 e2 e3 e4
  generalize rem.eraseIdx r = rem' at *
  generalize rem[r] = x at *
  obtain ⟨h1, h2, h3⟩ := hP
  have hP2 : rem'.length + (i + 1) = M.length ∧ (acc ++ [x]).length = i + 1 ∧ ∀ z, (z ∈ acc ++ [x] ∨ z ∈ rem') ↔ z ∈ M := ⟨by omega, by simp [h2], fun z => by
   rw [← h3, ← hq.mem_iff]; simp [or_assoc]⟩
  have hil : i < M.length := by omega
  clear hmem h1 h3 hq hel hr hr1 hr2
  simp only [go_sem]
  refine wk1 trivial ?_
  exact S8 (i' := i + 1) [some 0, some 3] [] ((some (zUX x, bV true))) ((rem', acc ++ [x])) (by exact hP2)
end Go.Abs

namespace Go.Abs
open Go Go.Proofs Tryz
attribute [local irreducible] q9 Hold y2
variable [Cur]
def zWH : Bool → Value
 | _ => .func (.func 44) #[] #[]
abbrev zVL (up : Bool) : AV := .raw (zWH up)
def zV1 (up : Bool) (a b : Nat) : Int := if up = true then (a : Int) - b else (b : Int) - a
theorem zJj (up : Bool) (a b : Str) : zUT up a b = orI (zV1 up a.length b.length) (zUR a b) := rfl
theorem zPy (a b : Nat) (ha : a ≤ 1000) (hb1 : b ≤ 1000) : zUL prog 44 [iV a, iV b] [] (iV ((b : Int) - a)) [] := by
 have hw : IntKind.i64.wrap ((b : Int) - a) = (b : Int) - a := wrap_i64 (by omega) (by omega)
 refine z9 func44 rfl (fun E hE => ?_); simp only [go_sem, ntmps44]
 refine wk1 trivial ?_
 (refine ⟨[_], [], [], ⟨rfl, trivial⟩, ?_⟩; simp only [go_sem, *])
theorem zPW (a b : Str) (ha : a.length ≤ 1000) (hb1 : b.length ≤ 1000) : zUL prog 85 [sV a, sV b, .ptr 0 0] [.box [zVL false]] (iV (zUT false a b)) [.box [zVL false]] := by
 have s2 := zPy a.length b.length ha hb1
 have s3 := zHC a b
 have so := zDk [zV1 false a.length b.length, zUR a b] (by simp)
 rw [zDL] at so
 rw [zJj]
 have hcb : y9 prog 44 = true := by kernel_rfl
 have e : zV1 false a.length b.length = (b.length : Int) - a.length := rfl
 have ex : zVL false = .raw (.func (.func 44) #[] #[]) := rfl
 rw [e] at so ⊢
 rw [ex]
 generalize (b.length : Int) - a.length = n at *
 generalize zUR a b = c at *
 generalize orI n c = r at *
 clear e ex
 refine z9 func85 rfl (fun E hE => ?_); simp only [go_sem, ntmps85]
 repeat' (first | (refine Qr rfl ?_; try intro _ hK; try simp only [go_sem, *]) | refine Qh rfl ?_ | (refine Qc rfl rfl ?_ ?_ <;> (intro hb; have hc := hb; try simp only [go_sem] at hc)) | refine z8 rfl ?_ | (refine u0 (s2) ?_ ?_; (focus (simp only [go_sem, *]; done)); simp only [go_sem, *]) | (refine u0 (s3) ?_ ?_; (focus (simp only [go_sem, *]; done)); simp only [go_sem, *]) | ((with_reducible apply And.intro); focus omega) | (refine z7 hK ?_; clear hK; simp only [go_sem, *]) | simp only [z6, z5, go_sem, *])
 (refine U5 [1] (so) (by simp only [go_sem, *]) (.raw _) ?_; simp only [go_sem, *])
 repeat' (first | (refine Qr rfl ?_; try intro _ hK; try simp only [go_sem, *]) | refine Qh rfl ?_ | (refine Qc rfl rfl ?_ ?_ <;> (intro hb; have hc := hb; try simp only [go_sem] at hc)) | refine z8 rfl ?_ | ((with_reducible apply And.intro); focus omega) | (refine z7 hK ?_; clear hK; simp only [go_sem, *]) | simp only [z6, z5, go_sem, *])
 refine ⟨[_], [some 0], [], ⟨rfl, trivial⟩, ?_⟩
 simp only [go_sem, *]
noncomputable def zE9 : Code := sub [0, 1, 0, 1, 1, 1] (W3 Tryz.f83)
noncomputable def B6 (fn : FuncId) : LoopK := ⟨fn, #[10], D2 zE9, D3 zE9, 23⟩
def zET : Option Str → AV
 | none => sV []
 | some c => sV c
@[go_sem] theorem zSP : zET none = .raw (.string ⟨#[]⟩) := rfl
@[go_sem] theorem zSQ (c : Str) : zET (some c) = sV c := rfl
def M3 : Option Str → Value
 | none => .string ⟨#[]⟩
 | some c => .string ⟨c.toArray⟩
abbrev zJ0 : AV := .fn 85 [.ptr 4 0]
noncomputable abbrev U9 (fn : FuncId) (B : Option Str) : List AObj := [.loopo (B6 fn) [(3, .ptr 1 0), (6, .ptr 2 0), (7, .ptr 3 0)] (some none), .box [zJ0], .box [.raw (M3 B)], .box [bV B.isSome], .box [zVL false]]
theorem zRr (fn : FuncId) (c : Str) : Y4 prog [sV c] (U9 fn none) (bV true) (U9 fn (some c)) := by
 simp only [U9, M3, Option.isSome_none, Option.isSome_some]
 refine K3 (L := B6 fn) (env := [(3, .ptr 1 0), (6, .ptr 2 0), (7, .ptr 3 0)]) (j := none) rfl rfl (fun E l hE => ?_)
 refine o8 rfl ?_
 simp only [B6, X8, go_sem]
 repeat' (first | (refine Qr (ops := _ :: _) rfl ?_; try intro _ hK; try simp only [go_sem, *]) | (refine Qi rfl rfl rfl rfl ?_ ?_ <;> (intro hb; (try intro _ hK); have hc := hb; try simp only [go_sem] at hc; simp only [go_sem, *])) | (refine Qb ?_ ?_; focus kernel_rfl) | ((with_reducible apply And.intro); focus omega) | (refine z7 hK ?_; clear hK; simp only [go_sem, *]) | simp only [z6, z5, go_sem, *])
 refine w7 ?_
 refine ⟨by simp only [go_sem], ?_⟩
 refine L3 (id := 1) rfl ?_
 refine T2 rfl ?_
 refine o8 rfl ?_
 simp only [go_sem]
 repeat' (first | (refine Qr (ops := _ :: _) rfl ?_; try intro _ hK; try simp only [go_sem, *]) | (refine Qi rfl rfl rfl rfl ?_ ?_ <;> (intro hb; (try intro _ hK); have hc := hb; try simp only [go_sem] at hc; simp only [go_sem, *])) | (refine Qb ?_ ?_; focus kernel_rfl) | ((with_reducible apply And.intro); focus omega) | (refine z7 hK ?_; clear hK; simp only [go_sem, *]) | simp only [z6, z5, go_sem, *])
 refine w7 ?_
 refine N4 (t := true) rfl (by simp only [go_sem]) (fun _ => ?_) (fun h => by cases h)
 refine o8 rfl ?_
 simp only [go_sem]
 repeat' (first | (refine Qr (ops := _ :: _) rfl ?_; try intro _ hK; try simp only [go_sem, *]) | (refine Qi rfl rfl rfl rfl ?_ ?_ <;> (intro hb; (try intro _ hK); have hc := hb; try simp only [go_sem] at hc; simp only [go_sem, *])) | (refine Qb ?_ ?_; focus kernel_rfl) | ((with_reducible apply And.intro); focus omega) | (refine z7 hK ?_; clear hK; simp only [go_sem, *]) | simp only [z6, z5, go_sem, *])
 refine w7 ?_
 simp only [z5, go_sem]
 refine ⟨rfl, [some 0, some 1, some 2, some 3, some 4], [], ?_⟩
 simp only [go_sem, *]
theorem zRs (fn : FuncId) (b c : Str) (hb1 : b.length ≤ 1000) (hc1 : c.length ≤ 1000) : Y4 prog [sV c] (U9 fn (some b)) (bV true) (U9 fn (some (if zUT false c b < 0 then c else b))) := by
 have hca : y9 prog 85 = true := by kernel_rfl
 have sc := zPW c b hc1 hb1
 simp only [U9, M3, Option.isSome_none, Option.isSome_some]
 refine K3 (L := B6 fn) (env := [(3, .ptr 1 0), (6, .ptr 2 0), (7, .ptr 3 0)]) (j := none) rfl rfl (fun E l hE => ?_)
 refine o8 rfl ?_
 simp only [B6, X8, go_sem]
 repeat' (first | (refine Qr (ops := _ :: _) rfl ?_; try intro _ hK; try simp only [go_sem, *]) | (refine Qi rfl rfl rfl rfl ?_ ?_ <;> (intro hb; (try intro _ hK); have hc := hb; try simp only [go_sem] at hc; simp only [go_sem, *])) | (refine Qb ?_ ?_; focus kernel_rfl) | ((with_reducible apply And.intro); focus omega) | (refine z7 hK ?_; clear hK; simp only [go_sem, *]) | simp only [z6, z5, go_sem, *])
 refine w7 ?_
 refine ⟨by simp only [go_sem], ?_⟩
 refine L3 (id := 1) rfl ?_
 refine T2 rfl ?_
 refine o8 rfl ?_
 simp only [go_sem]
 repeat' (first | (refine Qr (ops := _ :: _) rfl ?_; try intro _ hK; try simp only [go_sem, *]) | (refine Qi rfl rfl rfl rfl ?_ ?_ <;> (intro hb; (try intro _ hK); have hc := hb; try simp only [go_sem] at hc; simp only [go_sem, *])) | (refine Qb ?_ ?_; focus kernel_rfl) | ((with_reducible apply And.intro); focus omega) | (refine z7 hK ?_; clear hK; simp only [go_sem, *]) | simp only [z6, z5, go_sem, *])
 refine u9 [4] sc ?_
 simp only [go_sem]
 repeat' (first | (refine Qr (ops := _ :: _) rfl ?_; try intro _ hK; try simp only [go_sem, *]) | (refine Qi rfl rfl rfl rfl ?_ ?_ <;> (intro hb; (try intro _ hK); have hc := hb; try simp only [go_sem] at hc; simp only [go_sem, *])) | (refine Qb ?_ ?_; focus kernel_rfl) | ((with_reducible apply And.intro); focus omega) | (refine z7 hK ?_; clear hK; simp only [go_sem, *]) | simp only [z6, z5, go_sem, *])
 refine w7 ?_
 refine N4 (t := decide (zUT false c b < 0)) rfl (by simp only [go_sem]) (fun h => ?_) (fun h => ?_)
 ·rw [if_pos (by simpa using h)]
  refine o8 rfl ?_
  simp only [go_sem]
  repeat' (first | (refine Qr (ops := _ :: _) rfl ?_; try intro _ hK; try simp only [go_sem, *]) | (refine Qi rfl rfl rfl rfl ?_ ?_ <;> (intro hb; (try intro _ hK); have hc := hb; try simp only [go_sem] at hc; simp only [go_sem, *])) | (refine Qb ?_ ?_; focus kernel_rfl) | ((with_reducible apply And.intro); focus omega) | (refine z7 hK ?_; clear hK; simp only [go_sem, *]) | simp only [z6, z5, go_sem, *])
  refine w7 ?_
  simp only [z5, go_sem]
  refine ⟨rfl, [some 0, some 1, some 2, some 3, some 4], [], ?_⟩
  simp only [go_sem, *]
 ·rw [if_neg (by simpa using h)]
  refine zAJ rfl ?_
  simp only [z5, go_sem]
  refine ⟨rfl, [some 0, some 1, some 2, some 3, some 4], [], ?_⟩
  simp only [go_sem, *]
theorem zRq (fn : FuncId) (B : Option Str) (c : Str) (hb1 : ∀ b, B = some b → b.length ≤ 1000) (hc1 : c.length ≤ 1000) : Y4 prog [sV c] (U9 fn B) (bV true) (U9 fn (y7 (zUT false) B [c])) := by
 cases B with
 | none => exact zRr fn c
 | some b =>
  have := zRs fn b c (hb1 b rfl) hc1
  rw [zCg]
  by_cases h : zUT false c b < 0
  ·simp only [if_pos h] at this ⊢; exact this
  ·simp only [if_neg h] at this ⊢; exact this
end Go.Abs

namespace Go.Abs
open Go Go.Proofs Tryz
attribute [local irreducible] q9 Hold y2
variable [Cur]
theorem zO8 (fn : FuncId) (L : List Str) (B : Option Str) (hL : L.length ≤ 2000000000) (hs : ∀ s, s ∈ L → s.length ≤ 1000) (hB : ∀ b, B = some b → b.length ≤ 1000) :
  zUL prog 105 [.yld 0, .ptr 5 0] (U9 fn B ++ [.box [y4 L]]) (.tup []) (U9 fn (y7 (zUT false) B L) ++ [.box [y4 L]]) := by
 obtain ⟨T, hT⟩ : ∃ T, y7 (zUT false) B L = T := ⟨_, rfl⟩
 rw [hT]
 have h0 : y7 (zUT false) B (L.drop 0) = T := hT
 clear hT
 simp only [U9, List.cons_append, List.nil_append]
 refine z9 func105 rfl (fun E hE => ?_); simp only [go_sem, ntmps105]
 repeat' (first | (refine Qr rfl ?_; try intro _ hK; try simp only [go_sem, *]) | refine Qh rfl ?_ | (refine Qc rfl rfl ?_ ?_ <;> (intro hb; have hc := hb; try simp only [go_sem] at hc)) | refine z8 rfl ?_ | ((with_reducible apply And.intro); focus omega) | (refine z7 hK ?_; clear hK; simp only [go_sem, *]) | simp only [z6, z5, go_sem, *])
 refine Q8 rfl (L.length) (fun i (Z : Option Str) => y7 (zUT false) Z (L.drop i) = T ∧ ∀ b, Z = some b → b.length ≤ 1000) 16 (fun i Z => [(7, iV i), (6, iV L.length), (5, y4 L), (0, .yld 0)]) (fun i Z => U9 fn Z ++ [.box [y4 L]]) [some 0, some 1, some 2, some 3, some 4, some 5] [] (B) (by exact ⟨h0, hB⟩) ?_; intro i Z hi hP
 obtain ⟨hP, hZ⟩ := hP
 by_cases hi2 : i < L.length
 ·have hcl := hs _ (u5 hi2)
  rw [o5 hi2] at hP
  have hP : y7 (zUT false) (y7 (zUT false) Z [L.getD i default]) (L.drop (i + 1)) = T := by rw [← hP, ← B4]; rfl
  have hy := zRq fn Z (L.getD i default) hZ hcl
  have hZ2 : ∀ b, y7 (zUT false) Z [L.getD i default] = some b → b.length ≤ 1000 := fun b hb2 => by
   rcases B5 hb2 with h | h
   ·exact hZ b h
   ·rw [List.mem_singleton.1 h]; exact hcl
  generalize y7 (zUT false) Z [L.getD i default] = Z2 at *
  clear h0 hB hs hZ hcl
  repeat' (first | ((refine D6 2 rfl rfl rfl ?_; simp only [List.take_succ_cons, List.take_zero, List.drop_succ_cons, List.drop_zero])) | (refine Qr rfl ?_; try intro _ hK; try simp only [go_sem, *]) | refine Qh rfl ?_ | (refine Qc rfl rfl ?_ ?_ <;> (intro hb; have hc := hb; try simp only [go_sem] at hc)) | refine z8 rfl ?_ | ((with_reducible apply And.intro); focus omega) | (refine z7 hK ?_; clear hK; simp only [go_sem, *]) | simp only [z6, z5, go_sem, *])
  all_goals first | contradiction | omega | skip
  refine E6 rfl ?_
  refine zBB [0, 1, 2, 3, 4] [] hy rfl rfl (by simp) (by simp only [go_sem]) (by simp only [go_sem]) (by simp) (.inl rfl) (by simp [go_sem]) (by simp [go_sem]) ?_
  simp only [go_sem]
  repeat' (first | (refine Qr rfl ?_; try intro _ hK; try simp only [go_sem, *]) | refine Qh rfl ?_ | (refine Qc rfl rfl ?_ ?_ <;> (intro hb; have hc := hb; try simp only [go_sem] at hc)) | refine z8 rfl ?_ | ((with_reducible apply And.intro); focus omega) | (refine z7 hK ?_; clear hK; simp only [go_sem, *]) | simp only [z6, z5, go_sem, *])
  all_goals first | contradiction | omega | skip
  exact r7 (i' := i + 1) [some 0, some 1, some 2, some 3, some 4, some 5] [] (Z2) (by exact ⟨hP, hZ2⟩)
 ·rw [Z5 (by omega)] at hP
  have hP : Z = T := by cases Z <;> exact hP
  subst hP
  clear h0 hB hs hZ
  repeat' (first | (refine Qr rfl ?_; try intro _ hK; try simp only [go_sem, *]) | refine Qh rfl ?_ | (refine Qc rfl rfl ?_ ?_ <;> (intro hb; have hc := hb; try simp only [go_sem] at hc)) | refine z8 rfl ?_ | ((with_reducible apply And.intro); focus omega) | (refine z7 hK ?_; clear hK; simp only [go_sem, *]) | simp only [z6, z5, go_sem, *])
  all_goals first | contradiction | omega | skip
  refine ⟨[], [some 0, some 1, some 2, some 3, some 4, some 5], [], trivial, ?_⟩
  simp only [go_sem, Q9, *]
theorem zO7 (L : List Str) : zUL prog 84 [y4 L] [] (.fn 105 [.ptr 0 0]) [.box [y4 L]] := by
 refine z9 func84 rfl (fun E hE => ?_); simp only [go_sem, ntmps84]
 repeat' (first | (refine Qr rfl ?_; try intro _ hK; try simp only [go_sem, *]) | refine Qh rfl ?_ | (refine Qc rfl rfl ?_ ?_ <;> (intro hb; have hc := hb; try simp only [go_sem] at hc)) | refine z8 rfl ?_ | ((with_reducible apply And.intro); focus omega) | (refine z7 hK ?_; clear hK; simp only [go_sem, *]) | simp only [z6, z5, go_sem, *])
 refine ⟨[_], [some 0], [], ⟨rfl, trivial⟩, ?_⟩
 simp only [go_sem, *]
theorem zPc (L : List Str) (hL : L.length ≤ 2000000000) (hs : ∀ s, s ∈ L → s.length ≤ 1000) :
  zUL prog 83 [.fn 105 [.ptr 0 0], .fn 85 [.ptr 1 0]] [.box [y4 L], .box [zVL false]] (.tup [.raw (M3 (X1 (zUT false) L)), bV (X1 (zUT false) L).isSome]) [.box [y4 L], .box [zVL false]] := by
 have s1 := fun fn => zO8 fn L none hL hs (fun b h => by cases h)
 have e : X1 (zUT false) L = y7 (zUT false) none L := rfl
 rw [e]
 generalize y7 (zUT false) none L = B at *
 clear hs e
 simp only [U9, List.cons_append, List.nil_append, show M3 none = .string ⟨#[]⟩ from rfl, Option.isSome_none] at s1
 refine z9 func83 rfl (fun E hE => ?_); simp only [go_sem, ntmps83]
 repeat' (first | (refine Qr rfl ?_; try intro _ hK; try simp only [go_sem, *]) | refine Qh rfl ?_ | refine Qd rfl (by kernel_rfl) ?_ | (refine Qc rfl rfl ?_ ?_ <;> (intro hb; have hc := hb; try simp only [go_sem] at hc)) | refine z8 rfl ?_ | (refine Qb ?_ ?_; focus kernel_rfl) | ((with_reducible apply And.intro); focus omega) | (refine z7 hK ?_; clear hK; simp only [go_sem, *]) | simp only [z6, z5, go_sem, *])
 refine X5 (N := 23) (env := [(9, .fn 105 [.ptr 0 0]), (3, .ptr 2 0), (6, .ptr 3 0), (7, .ptr 4 0)]) (As := [.box [y4 L], .box [zVL false], .box [.fn 85 [.ptr 1 0]], .box [sV []], .box [bV false]]) [some 0, some 1, some 2, some 3, some 4] [] (by (simp only [Weak, go_sem, List.map_append, List.map_set, *] <;> (try simp (disch := omega) only [u6]) <;> (try simp) <;> (try omega))) ?_
 refine zAz (f := 105) (caps := [.ptr 0 0]) rfl (by simp only [go_sem]) (by kernel_rfl) (nx := 5) (by simp only [go_sem]) (fun fn => ⟨6, ?_⟩)
 refine x7 [5, 2, 3, 4, 1, 0] [] (s1 fn) (by simp) (by simp only [go_sem]) ?_ (by simp) (.inl rfl) (by simp [go_sem]) (by simp [go_sem]) ?_
 ·simp only [go_sem, *]
  first | rfl | exact ⟨rfl, rfl⟩
 ·simp only [go_sem, *]
  refine ⟨B6 fn, [(3, .ptr 2 0), (6, .ptr 3 0), (7, .ptr 4 0)], none, by simp only [go_sem], ?_⟩
  simp only [go_sem]
  repeat' (first | (refine Qr rfl ?_; try intro _ hK; try simp only [go_sem, *]) | refine Qh rfl ?_ | refine Qd rfl (by kernel_rfl) ?_ | (refine Qc rfl rfl ?_ ?_ <;> (intro hb; have hc := hb; try simp only [go_sem] at hc)) | refine z8 rfl ?_ | (refine Qb ?_ ?_; focus kernel_rfl) | ((with_reducible apply And.intro); focus omega) | (refine z7 hK ?_; clear hK; simp only [go_sem, *]) | simp only [z6, z5, go_sem, *])
  refine ⟨[_, _], [some 0, some 1], [], ⟨rfl, rfl, trivial⟩, ?_⟩
  simp only [go_sem, *]
end Go.Abs

namespace Go.Abs
open Go Go.Proofs Tryz
attribute [local irreducible] q9 Hold y2
variable [Cur]
def okC (l : List Str) (own : Str) (most : Int) (s : Str) : Bool := decide ((s.length : Int) ≤ most) && !W8 s l own
theorem zPV (l : List Str) (own : Str) (most : Int) (hv : ∀ s, s ∈ l → ValidN s) (hl : l.length ≤ 1000) (ho0 : 0 < own.length) (ho : own.length ≤ 12) (_hm : -1000 ≤ most ∧ most ≤ 1000) :
  zUL prog 43 [y4 l, sV own, iV most, zVL false] [] (.tup [.raw (M3 (zUw l own most false)), bV (zUw l own most false).isSome]) [] := by
 have hca : y9 prog 81 = true := by kernel_rfl
 have hcb : y9 prog 82 = true := by kernel_rfl
 have sc := zPX own ho0 ho
 have sm := fun k h0 h1 => zPw k own l h0 h1 hv hl
 refine z9 func43 rfl (fun E hE => ?_); simp only [go_sem, ntmps43]
 repeat' (first | ((refine zN1 1 rfl rfl rfl hcb rfl ?_; simp only [List.take_succ_cons, List.take_zero, List.drop_succ_cons, List.drop_zero])) | (refine Qr rfl ?_; try intro _ hK; try simp only [go_sem, *]) | (refine Qi rfl rfl rfl rfl ?_ ?_ <;> (intro hb; (try intro _ hK); have hc := hb; try simp only [go_sem] at hc; simp only [go_sem, *])) | refine Qh rfl ?_ | (refine Qc rfl rfl ?_ ?_ <;> (intro hb; have hc := hb; try simp only [go_sem] at hc)) | refine z8 rfl ?_ | ((with_reducible apply And.intro); focus omega) | (refine z7 hK ?_; clear hK; simp only [go_sem, *]) | simp only [z6, z5, go_sem, *])
 refine zCG ⟨J2 own, fun s => zGH, zEj ho ho0⟩ [] [] sc (by simp) (by simp only [go_sem]) trivial (by simp) (.inl rfl) (by simp [go_sem]) (by simp [go_sem]) (fun L => ?_)
 obtain ⟨L, hLm, hLl⟩ := L
 simp only [go_sem]
 clear sc
 obtain ⟨F, hF⟩ : ∃ F, L.filter (okC l own most) = F := ⟨_, rfl⟩
 have hcut : X1 (zUT false) F = zUw l own most false := zJ2 (fun s => by
  rw [← hF, List.mem_filter, hLm]
  unfold okC C0
  simp only [Bool.and_eq_true, decide_eq_true_eq, Bool.not_eq_true'])
 have hFs : ∀ s, s ∈ F → s.length ≤ 1000 := fun s hs => by
  rw [← hF, List.mem_filter, hLm] at hs
  obtain ⟨⟨t, _, _, h⟩, _⟩ := hs
  omega
 have h0 : [] ++ (L.drop 0).filter (okC l own most) = F := hF
 rw [← hcut]
 have hFl : F.length ≤ 2000000000 := by rw [← hF]; exact Nat.le_trans (List.length_filter_le _ _) hLl
 have hLs : ∀ s, s ∈ L → 0 < s.length ∧ s.length ≤ 12 := fun s hs => by
  have h := (hLm s).1 hs
  have h1 := zFp h
  obtain ⟨t, _, _, h⟩ := h
  omega
 clear hF hcut hLm
 repeat' (first | (refine Qr rfl ?_; try intro _ hK; try simp only [go_sem, *]) | (refine Qi rfl rfl rfl rfl ?_ ?_ <;> (intro hb; (try intro _ hK); have hc := hb; try simp only [go_sem] at hc; simp only [go_sem, *])) | refine Qh rfl ?_ | (refine Qc rfl rfl ?_ ?_ <;> (intro hb; have hc := hb; try simp only [go_sem] at hc)) | refine z8 rfl ?_ | ((with_reducible apply And.intro); focus omega) | (refine z7 hK ?_; clear hK; simp only [go_sem, *]) | simp only [z6, z5, go_sem, *])
 refine Q8 rfl (L.length) (fun i (acc : List Str) => acc ++ (L.drop i).filter (okC l own most) = F) 43 (fun i acc => [(17, iV i), (16, iV L.length), (15, .own 1 1 0 L.length), (10, .own 2 1 0 acc.length), (11, fnV 81), (7, .ptr 0 0), (0, y4 l), (1, sV own), (2, iV most)]) (fun i acc => [.box [zVL false], .row 1 (L.map sV), .row 1 (acc.map sV)]) [some 0, some 1, none] [] ([]) (by exact h0) ?_; intro i acc hi hP
 clear h0
 by_cases hi2 : i < L.length
 ·obtain ⟨hx0, hx1⟩ := hLs _ (u5 hi2)
  have s1 := sm _ hx0 (by omega)
  have hal : acc.length ≤ 2000000000 := by
   have := congrArg List.length hP
   rw [List.length_append] at this
   omega
  rw [o5 hi2, List.filter_cons, show okC l own most (L.getD i default) = (decide (((L.getD i default).length : Int) ≤ most) && !W8 (L.getD i default) l own) from rfl] at hP
  generalize hxe : L.getD i default = x at *
  generalize W8 x l own = b at *
  clear sm hLs hv
  by_cases q : (x.length : Int) ≤ most
  ·cases b
   ·rw [decide_eq_true q] at hP
    have hP : (acc ++ [x]) ++ (L.drop (i + 1)).filter (okC l own most) = F := by rw [← hP]; simp
    repeat' (first | (refine Qr rfl ?_; try intro _ hK; try simp only [go_sem, *]) | (refine Qi rfl rfl rfl rfl ?_ ?_ <;> (intro hb; (try intro _ hK); have hc := hb; try simp only [go_sem] at hc; simp only [go_sem, *])) | refine Qh rfl ?_ | (refine Qc rfl rfl ?_ ?_ <;> (intro hb; have hc := hb; try simp only [go_sem] at hc)) | refine z8 rfl ?_ | (refine y6 (s1) ?_; simp only [go_sem, *]) | ((with_reducible apply And.intro); focus omega) | (refine z7 hK ?_; clear hK; simp only [go_sem, *]) | simp only [z6, z5, go_sem, *])
    all_goals first | contradiction | omega | skip
    exact r7 (i' := i + 1) [some 0, some 1, some 4] [] (acc ++ [x]) (by exact hP)
   ·rw [decide_eq_true q] at hP
    have hP : acc ++ (L.drop (i + 1)).filter (okC l own most) = F := hP
    repeat' (first | (refine Qr rfl ?_; try intro _ hK; try simp only [go_sem, *]) | (refine Qi rfl rfl rfl rfl ?_ ?_ <;> (intro hb; (try intro _ hK); have hc := hb; try simp only [go_sem] at hc; simp only [go_sem, *])) | refine Qh rfl ?_ | (refine Qc rfl rfl ?_ ?_ <;> (intro hb; have hc := hb; try simp only [go_sem] at hc)) | refine z8 rfl ?_ | (refine y6 (s1) ?_; simp only [go_sem, *]) | ((with_reducible apply And.intro); focus omega) | (refine z7 hK ?_; clear hK; simp only [go_sem, *]) | simp only [z6, z5, go_sem, *])
    all_goals first | contradiction | omega | skip
    exact r7 (i' := i + 1) [some 0, some 1, some 2] [] (acc) (by exact hP)
  ·rw [decide_eq_false q] at hP
   have hP : acc ++ (L.drop (i + 1)).filter (okC l own most) = F := hP
   repeat' (first | (refine Qr rfl ?_; try intro _ hK; try simp only [go_sem, *]) | (refine Qi rfl rfl rfl rfl ?_ ?_ <;> (intro hb; (try intro _ hK); have hc := hb; try simp only [go_sem] at hc; simp only [go_sem, *])) | refine Qh rfl ?_ | (refine Qc rfl rfl ?_ ?_ <;> (intro hb; have hc := hb; try simp only [go_sem] at hc)) | refine z8 rfl ?_ | (refine y6 (s1) ?_; simp only [go_sem, *]) | ((with_reducible apply And.intro); focus omega) | (refine z7 hK ?_; clear hK; simp only [go_sem, *]) | simp only [z6, z5, go_sem, *])
   all_goals first | contradiction | omega | skip
   exact r7 (i' := i + 1) [some 0, some 1, some 2] [] (acc) (by exact hP)
 ·rw [Z5 (by omega)] at hP
  have hP : acc = F := by rw [← hP]; simp
  subst hP
  clear sm hLs hv
  have sV1 := zO7 acc
  have sF := zPc acc hFl hFs
  generalize X1 (zUT false) acc = o at *
  clear hFs
  repeat' (first | (refine Qr rfl ?_; try intro _ hK; try simp only [go_sem, *]) | (refine Qi rfl rfl rfl rfl ?_ ?_ <;> (intro hb; (try intro _ hK); have hc := hb; try simp only [go_sem] at hc; simp only [go_sem, *])) | refine Qh rfl ?_ | (refine Qc rfl rfl ?_ ?_ <;> (intro hb; have hc := hb; try simp only [go_sem] at hc)) | refine z8 rfl ?_ | ((with_reducible apply And.intro); focus omega) | (refine z7 hK ?_; clear hK; simp only [go_sem, *]) | simp only [z6, z5, go_sem, *])
  all_goals first | contradiction | omega | skip
  refine M5 [] [2] sV1 rfl (by simp only [go_sem]) (by simp) ?_ ?_ (by simp [go_sem]) (by simp [go_sem]) ?_
  ·simp only [go_sem, *]
  ·simp only [go_sem, *]
  simp only [go_sem, w5, *]
  repeat' (first | (refine Qr rfl ?_; try intro _ hK; try simp only [go_sem, *]) | (refine Qi rfl rfl rfl rfl ?_ ?_ <;> (intro hb; (try intro _ hK); have hc := hb; try simp only [go_sem] at hc; simp only [go_sem, *])) | refine Qh rfl ?_ | (refine Qc rfl rfl ?_ ?_ <;> (intro hb; have hc := hb; try simp only [go_sem] at hc)) | refine z8 rfl ?_ | ((with_reducible apply And.intro); focus omega) | (refine z7 hK ?_; clear hK; simp only [go_sem, *]) | simp only [z6, z5, go_sem, *])
  refine u9 [3, 0] sF ?_
  simp only [go_sem, *]
  repeat' (first | (refine Qr rfl ?_; try intro _ hK; try simp only [go_sem, *]) | (refine Qi rfl rfl rfl rfl ?_ ?_ <;> (intro hb; (try intro _ hK); have hc := hb; try simp only [go_sem] at hc; simp only [go_sem, *])) | refine Qh rfl ?_ | (refine Qc rfl rfl ?_ ?_ <;> (intro hb; have hc := hb; try simp only [go_sem] at hc)) | refine z8 rfl ?_ | ((with_reducible apply And.intro); focus omega) | (refine z7 hK ?_; clear hK; simp only [go_sem, *]) | simp only [z6, z5, go_sem, *])
  all_goals first | contradiction | omega | skip
  (refine ⟨[_, _], [], [], ⟨rfl, rfl, trivial⟩, ?_⟩; simp only [go_sem, *])
end Go.Abs

namespace Go.Abs
open Go Go.Proofs Tryz
attribute [local irreducible] q9 Hold y2
variable [Cur]
theorem zMJ {s : Str} (v : ValidN s) : 0 < (zUN s).length ∧ (zUN s).length ≤ 12 := by
 have h := A4 v
 unfold x6 at h
 simp only [Bool.and_eq_true, decide_eq_true_eq] at h
 omega
theorem zPn (l : List Str) (n : Int) (hl : l.length ≤ 4294967296) : zUL prog 42 [y4 l, iV n] [] (.tup [sV (if S1 l n = 0 then Z9 l n else []), iV (S1 l n)]) [] := by
 have s1 := zDn l hl
 unfold S1
 by_cases q : a9 l = 0
 ·rw [if_pos q]
  rw [q] at s1
  have hv := zBd q
  by_cases q2 : n < 0 ∨ (l.length : Int) ≤ n
  ·rw [if_pos q2, if_neg (by decide)]
   clear hv
   by_cases q3 : n < 0
   ·refine z9 func42 rfl (fun E hE => ?_); simp only [go_sem, ntmps42]
    repeat' (first | (refine Qr rfl ?_; try intro _ hK; try simp only [go_sem, *]) | (refine Qi rfl rfl rfl rfl ?_ ?_ <;> (intro hb; (try intro _ hK); have hc := hb; try simp only [go_sem] at hc; simp only [go_sem, *])) | refine Qh rfl ?_ | (refine Qc rfl rfl ?_ ?_ <;> (intro hb; have hc := hb; try simp only [go_sem] at hc)) | refine z8 rfl ?_ | (refine y6 (s1) ?_; simp only [go_sem, *]) | ((with_reducible apply And.intro); focus omega) | (refine z7 hK ?_; clear hK; simp only [go_sem, *]) | simp only [z6, z5, go_sem, *])
    all_goals first | contradiction | omega | skip
    (refine ⟨[_, _], [], [], ⟨rfl, rfl, trivial⟩, ?_⟩; simp only [go_sem, *])
   ·have q4 : (l.length : Int) ≤ n := q2.resolve_left q3
    clear q2
    refine z9 func42 rfl (fun E hE => ?_); simp only [go_sem, ntmps42]
    repeat' (first | (refine Qr rfl ?_; try intro _ hK; try simp only [go_sem, *]) | (refine Qi rfl rfl rfl rfl ?_ ?_ <;> (intro hb; (try intro _ hK); have hc := hb; try simp only [go_sem] at hc; simp only [go_sem, *])) | refine Qh rfl ?_ | (refine Qc rfl rfl ?_ ?_ <;> (intro hb; have hc := hb; try simp only [go_sem] at hc)) | refine z8 rfl ?_ | (refine y6 (s1) ?_; simp only [go_sem, *]) | ((with_reducible apply And.intro); focus omega) | (refine z7 hK ?_; clear hK; simp only [go_sem, *]) | simp only [z6, z5, go_sem, *])
    all_goals first | contradiction | omega | skip
    (refine ⟨[_, _], [], [], ⟨rfl, rfl, trivial⟩, ?_⟩; simp only [go_sem, *])
  ·rw [if_neg q2, if_pos rfl]
   obtain ⟨i, rfl⟩ : ∃ i : Nat, n = i := ⟨n.toNat, by omega⟩
   have hi2 : i < l.length := by omega
   have v := hv _ (u5 hi2)
   have so := H6 _ v.form (by have := v.len; omega)
   have e : Z9 l (i : Int) = zUN (l.getD i default) := rfl
   rw [e]
   generalize zUN (l.getD i default) = k at *
   clear hv e v q2
   have q3 : ¬ (i : Int) < 0 := by omega
   refine z9 func42 rfl (fun E hE => ?_); simp only [go_sem, ntmps42]
   repeat' (first | (refine Qr rfl ?_; try intro _ hK; try simp only [go_sem, *]) | (refine Qi rfl rfl rfl rfl ?_ ?_ <;> (intro hb; (try intro _ hK); have hc := hb; try simp only [go_sem] at hc; simp only [go_sem, *])) | refine Qh rfl ?_ | (refine Qc rfl rfl ?_ ?_ <;> (intro hb; have hc := hb; try simp only [go_sem] at hc)) | refine z8 rfl ?_ | ((first | refine y6 (s1) ?_ | refine y6 (so) ?_); simp only [go_sem, *]) | ((with_reducible apply And.intro); focus omega) | (refine z7 hK ?_; clear hK; simp only [go_sem, *]) | simp only [z6, z5, go_sem, *])
   all_goals first | contradiction | omega | skip
   (refine ⟨[_, _], [], [], ⟨rfl, rfl, trivial⟩, ?_⟩; simp only [go_sem, *])
 ·rw [if_neg q, if_neg q]
  generalize a9 l = e at *
  refine z9 func42 rfl (fun E hE => ?_); simp only [go_sem, ntmps42]
  repeat' (first | (refine Qr rfl ?_; try intro _ hK; try simp only [go_sem, *]) | (refine Qi rfl rfl rfl rfl ?_ ?_ <;> (intro hb; (try intro _ hK); have hc := hb; try simp only [go_sem] at hc; simp only [go_sem, *])) | refine Qh rfl ?_ | (refine Qc rfl rfl ?_ ?_ <;> (intro hb; have hc := hb; try simp only [go_sem] at hc)) | refine z8 rfl ?_ | (refine y6 (s1) ?_; simp only [go_sem, *]) | ((with_reducible apply And.intro); focus omega) | (refine z7 hK ?_; clear hK; simp only [go_sem, *]) | simp only [z6, z5, go_sem, *])
  all_goals first | contradiction | omega | skip
  (refine ⟨[_, _], [], [], ⟨rfl, rfl, trivial⟩, ?_⟩; simp only [go_sem, *])
theorem zL6 {l : List Str} {n : Int} (q : S1 l n = 0) : (∀ s, s ∈ l → ValidN s) ∧ l.length ≤ 6 ∧ 0 < (Z9 l n).length ∧ (Z9 l n).length ≤ 12 := by
 unfold S1 at q
 by_cases a : a9 l = 0
 ·rw [if_pos a] at q
  by_cases b : n < 0 ∨ (l.length : Int) ≤ n
  ·rw [if_pos b] at q; cases q
  ·have hv := zBd a
   have v : ValidN (l.getD n.toNat default) := hv _ (u5 (by omega))
   exact ⟨hv, zC9 a, zMJ v⟩
 ·rw [if_neg a] at q; exact absurd q a
theorem zJ4 {l : List Str} {own : Str} {most : Int} {up : Bool} {s : Str} (h : zUw l own most up = some s) : s.length < own.length := by
 obtain ⟨⟨t, _, _, h⟩, _⟩ := (cutN_some.1 h).1
 exact h
theorem zDj (l : List Str) (n w : Int) (hl : l.length ≤ 4294967296) : zUL prog 12 [y4 l, iV n, iV w] [] (.tup [sV (zUk l n w), iV (X2 l n w)]) [] := by
 have s1 := zPn l n hl
 unfold zUk X2
 by_cases q : S1 l n = 0
 ·obtain ⟨hv, h6, hk0, hk1⟩ := zL6 q
  rw [if_pos q] at s1
  rw [if_pos q, if_pos q]
  rw [q] at s1
  by_cases q1 : w < 1
  ·rw [if_pos q1, if_pos q1]
   clear hv q
   generalize Z9 l n = k at *
   refine z9 func12 rfl (fun E hE => ?_); simp only [go_sem, ntmps12]
   repeat' (first | (refine Qr rfl ?_; try intro _ hK; try simp only [go_sem, *]) | refine Qh rfl ?_ | (refine Qc rfl rfl ?_ ?_ <;> (intro hb; have hc := hb; try simp only [go_sem] at hc)) | refine z8 rfl ?_ | (refine y6 (s1) ?_; simp only [go_sem, *]) | ((with_reducible apply And.intro); focus omega) | (refine z7 hK ?_; clear hK; simp only [go_sem, *]) | simp only [z6, z5, go_sem, *])
   all_goals try contradiction
   (refine ⟨[_, _], [], [], ⟨rfl, rfl, trivial⟩, ?_⟩; simp only [go_sem, *])
  ·rw [if_neg q1, if_neg q1]
   by_cases q2 : ((Z9 l n).length : Int) ≤ w
   ·rw [if_pos q2, if_pos q2]
    clear hv q
    generalize Z9 l n = k at *
    refine z9 func12 rfl (fun E hE => ?_); simp only [go_sem, ntmps12]
    repeat' (first | (refine Qr rfl ?_; try intro _ hK; try simp only [go_sem, *]) | refine Qh rfl ?_ | (refine Qc rfl rfl ?_ ?_ <;> (intro hb; have hc := hb; try simp only [go_sem] at hc)) | refine z8 rfl ?_ | (refine y6 (s1) ?_; simp only [go_sem, *]) | ((with_reducible apply And.intro); focus omega) | (refine z7 hK ?_; clear hK; simp only [go_sem, *]) | simp only [z6, z5, go_sem, *])
    all_goals try contradiction
    (refine ⟨[_, _], [], [], ⟨rfl, rfl, trivial⟩, ?_⟩; simp only [go_sem, *])
   ·rw [if_neg q2, if_neg q2]
    have hw : IntKind.i64.wrap (w - 1) = w - 1 := wrap_i64 (by omega) (by omega)
    have sc : zUL prog 43 [y4 l, sV (Z9 l n), iV (w - 1), fnV 44] [] (.tup [.raw (M3 (zUw l (Z9 l n) (w - 1) false)), bV (zUw l (Z9 l n) (w - 1) false).isSome]) [] := zPV l (Z9 l n) (w - 1) hv (by omega) hk0 hk1 (by omega)
    have hcl := fun s => zJ4 (l := l) (own := Z9 l n) (most := w - 1) (up := false) (s := s)
    generalize Z9 l n = k at *
    generalize zUw l k (w - 1) false = o at *
    clear hv q
    cases o with
    | none =>
     rw [show (none : Option Str).isSome = false from rfl] at sc ⊢
     rw [if_neg (by decide)]
     simp only [M3, Option.map_none, Option.getD_none] at sc ⊢
     refine z9 func12 rfl (fun E hE => ?_); simp only [go_sem, ntmps12]
     repeat' (first | (refine Qr rfl ?_; try intro _ hK; try simp only [go_sem, *]) | refine Qh rfl ?_ | (refine Qc rfl rfl ?_ ?_ <;> (intro hb; have hc := hb; try simp only [go_sem] at hc)) | refine z8 rfl ?_ | ((first | refine y6 (s1) ?_ | refine y6 (sc) ?_); simp only [go_sem, *]) | ((with_reducible apply And.intro); focus omega) | (refine z7 hK ?_; clear hK; simp only [go_sem, *]) | simp only [z6, z5, go_sem, *])
     all_goals try contradiction
     (refine ⟨[_, _], [], [], ⟨rfl, rfl, trivial⟩, ?_⟩; simp only [go_sem, *])
    | some c =>
     have hc1 := hcl c rfl
     rw [show (some c : Option Str).isSome = true from rfl] at sc ⊢
     rw [if_pos rfl]
     simp only [M3, Option.map_some, Option.getD_some, zV7] at sc ⊢
     clear hcl
     refine z9 func12 rfl (fun E hE => ?_); simp only [go_sem, ntmps12]
     repeat' (first | (refine Qr rfl ?_; try intro _ hK; try simp only [go_sem, *]) | refine Qh rfl ?_ | (refine Qc rfl rfl ?_ ?_ <;> (intro hb; have hc := hb; try simp only [go_sem] at hc)) | refine z8 rfl ?_ | ((first | refine y6 (s1) ?_ | refine y6 (sc) ?_); simp only [go_sem, *]) | ((with_reducible apply And.intro); focus omega) | (refine z7 hK ?_; clear hK; simp only [go_sem, *]) | simp only [z6, z5, go_sem, *])
     all_goals try contradiction
     (refine ⟨[_, _], [], [], ⟨rfl, rfl, trivial⟩, ?_⟩; simp only [go_sem, *])
 ·rw [if_neg q] at s1
  rw [if_neg q, if_neg q]
  generalize S1 l n = e at *
  refine z9 func12 rfl (fun E hE => ?_); simp only [go_sem, ntmps12]
  repeat' (first | (refine Qr rfl ?_; try intro _ hK; try simp only [go_sem, *]) | refine Qh rfl ?_ | (refine Qc rfl rfl ?_ ?_ <;> (intro hb; have hc := hb; try simp only [go_sem] at hc)) | refine z8 rfl ?_ | (refine y6 (s1) ?_; simp only [go_sem, *]) | ((with_reducible apply And.intro); focus omega) | (refine z7 hK ?_; clear hK; simp only [go_sem, *]) | simp only [z6, z5, go_sem, *])
  all_goals try contradiction
  (refine ⟨[_, _], [], [], ⟨rfl, rfl, trivial⟩, ?_⟩; simp only [go_sem, *])
end Go.Abs

namespace Go.Abs
open Go
def zUu (s p : Str) : Bool := decide (p.length ≤ s.length) && (s.drop (s.length - p.length) == p)
def f8 (s : Str) : Str := s.take (s.length - 1)
def Y8 (s : Str) : Bool := zUu s [46] && x6 (f8 s) 1 12
theorem zOI {s : Str} (h : Y8 s = true) : 1 ≤ (f8 s).length ∧ (f8 s).length ≤ 12 ∧ (f8 s).all x5 = true ∧ s.length = (f8 s).length + 1 := by
 unfold Y8 x6 at h
 simp only [Bool.and_eq_true, decide_eq_true_eq] at h
 refine ⟨h.2.1, h.2.2.1, h.2.2.2, ?_⟩
 have h1 := h.2.1
 unfold f8 at h1 ⊢
 rw [List.length_take] at h1 ⊢
 omega
def T5 (k : Str) (l : List Str) (i : Nat) : List Int := (List.range' i (l.length - i)).flatMap fun (i : Nat) => if j4 k (zUN (l.getD i [])) = true then [(i : Int)] else []
def zA5 (s : Str) (l : List Str) : Int := if Y8 s = true then a9 l else 2
def zU2 (s : Str) (l : List Str) : List Int := T5 (f8 s) l 0
theorem zHe {k : Str} {l : List Str} {i : Nat} (h : i < l.length) : T5 k l i = (if j4 k (zUN (l.getD i default)) = true then [(i : Int)] else []) ++ T5 k l (i + 1) := by
 unfold T5
 rw [show l.length - i = (l.length - (i + 1)) + 1 by omega, List.range'_succ, List.flatMap_cons]
 rfl
theorem zHd {k : Str} {l : List Str} {i : Nat} (h : l.length ≤ i) : T5 k l i = [] := by
 unfold T5
 rw [show l.length - i = 0 by omega]; rfl
theorem zQO {k : Str} {l : List Str} : ∀ c i, l.length - i = c → (T5 k l i).length ≤ c := by
 intro c
 induction c with
 | zero => intro i h; rw [zHd (by omega)]; simp
 | succ c ih =>
  intro i h
  rw [zHe (by omega), List.length_append]
  have := ih (i + 1) (by omega)
  split <;> simp <;> omega
theorem zMs {k : Str} {l : List Str} {z : Int} : z ∈ T5 k l 0 ↔ ∃ i : Nat, z = i ∧ i < l.length ∧ j4 k (zUN (l.getD i default)) = true := by
 unfold T5
 rw [List.mem_flatMap]
 constructor
 ·rintro ⟨i, h1, h2⟩
  have h3 : i < l.length := by have := (List.mem_range'_1.1 h1).2; omega
  by_cases q : j4 k (zUN (l.getD i default)) = true
  ·have h2 : z ∈ (if j4 k (zUN (l.getD i default)) = true then [(i : Int)] else []) := h2
   rw [if_pos q] at h2
   exact ⟨i, List.mem_singleton.1 h2, h3, q⟩
  ·have h2 : z ∈ (if j4 k (zUN (l.getD i default)) = true then [(i : Int)] else []) := h2
   rw [if_neg q] at h2
   cases h2
 ·rintro ⟨i, rfl, h2, h3⟩
  refine ⟨i, List.mem_range'_1.2 ⟨by omega, by omega⟩, ?_⟩
  show (i : Int) ∈ (if j4 k (zUN (l.getD i default)) = true then [(i : Int)] else [])
  rw [if_pos h3]; simp
end Go.Abs

namespace Go.Abs
open Go Go.Proofs Go.RowKit
attribute [local irreducible] q9 Hold y2
attribute [local instance] T0
theorem zOs (s p : Str) (h1 : s.length ≤ 4294967296) (h2 : p.length ≤ 4294967296) : zUL Tryz.prog 164 [sV s, sV p] [] (bV (zUu s p)) [] := by
 unfold zUu
 by_cases q : p.length ≤ s.length
 ·have qi : (s.length : Int) ≥ (p.length : Int) := by omega
  have hw : IntKind.i64.wrap ((s.length : Int) - (p.length : Int)) = ((s.length - p.length : Nat) : Int) := by rw [wrap_i64 (by omega) (by omega)]; omega
  rw [decide_eq_true q, Bool.true_and]
  have hd : s.length - p.length ≤ s.length := by omega
  generalize s.length - p.length = d at *
  generalize hb : (s.drop d == p) = b at *
  refine z9 Tryz.func164 rfl (fun E hE => ?_); simp only [go_sem, Tryz.ntmps164]
  refine wk1 trivial ?_
  all_goals first | contradiction | omega | skip
  (refine ⟨[_], [], [], ⟨rfl, trivial⟩, ?_⟩; simp only [go_sem, *])
 ·have qi : ¬ (s.length : Int) ≥ (p.length : Int) := by omega
  rw [decide_eq_false q, Bool.false_and]
  refine z9 Tryz.func164 rfl (fun E hE => ?_); simp only [go_sem, Tryz.ntmps164]
  refine wk1 trivial ?_
  all_goals first | contradiction | omega | skip
  (refine ⟨[_], [], [], ⟨rfl, trivial⟩, ?_⟩; simp only [go_sem, *])
theorem zOj (s p : Str) (h1 : s.length ≤ 4294967296) (h2 : p.length ≤ 4294967296) :
  zUL Tryz.prog 133 [sV s, sV p] [] (.tup [sV (if zUu s p = true then s.take (s.length - p.length) else s), bV (zUu s p)]) [] := by
 have sh := zOs s p h1 h2
 cases q : zUu s p
 ·rw [q] at sh
  rw [if_neg (by decide)]
  clear q
  refine z9 Tryz.func133 rfl (fun E hE => ?_); simp only [go_sem, Tryz.ntmps133]
  refine wk1 sh ?_
  all_goals first | contradiction | omega | skip
  (refine ⟨[_, _], [], [], ⟨rfl, rfl, trivial⟩, ?_⟩; simp only [go_sem, *])
 ·rw [q] at sh
  rw [if_pos rfl]
  have hl : p.length ≤ s.length := by
   unfold zUu at q
   rw [Bool.and_eq_true, decide_eq_true_eq] at q
   exact q.1
  have hw : IntKind.i64.wrap ((s.length : Int) - (p.length : Int)) = ((s.length - p.length : Nat) : Int) := by rw [wrap_i64 (by omega) (by omega)]; omega
  have hd : s.length - p.length ≤ s.length := by omega
  generalize s.length - p.length = d at *
  clear q
  refine z9 Tryz.func133 rfl (fun E hE => ?_); simp only [go_sem, Tryz.ntmps133]
  refine wk1 sh ?_
  all_goals first | contradiction | omega | skip
  (refine ⟨[_, _], [], [], ⟨rfl, rfl, trivial⟩, ?_⟩; simp only [go_sem, *])
theorem zOi (s p : Str) (h1 : s.length ≤ 4294967296) (h2 : p.length ≤ 4294967296) :
  zUL Tryz.prog 106 [sV s, sV p] [] (.tup [sV (if zUu s p = true then s.take (s.length - p.length) else s), bV (zUu s p)]) [] := by
 have sh := zOj s p h1 h2
 generalize (if zUu s p = true then s.take (s.length - p.length) else s) = t at *
 generalize zUu s p = b at *
 refine z9 Tryz.func106 rfl (fun E hE => ?_); simp only [go_sem, Tryz.ntmps106]
 refine wk1 sh ?_
 (refine ⟨[_, _], [], [], ⟨rfl, rfl, trivial⟩, ?_⟩; simp only [go_sem, *])
theorem zOh (s : Str) (h : s.length ≤ 4294967296) : zUL Tryz.prog 106 [sV s, sV [46]] [] (.tup [sV (if zUu s [46] = true then f8 s else s), bV (zUu s [46])]) [] := zOi s [46] h (by simp)
abbrev bs (s : Str) : ByteArray := ⟨s.toArray⟩
theorem zNM (s : Str) (hs : s.length ≤ 4294967296) (w : World) (hL : V7 w) : Calls Tryz.prog 86 #[.string (bs s)] w fun e w' =>
  e = .returned (.tuple #[.string (bs (if Y8 s = true then f8 s else [])), if Y8 s = true then .nilIface else .iface 172 (.string (bs s))]) ∧ Below w.heap.size w w' := by
 have c1 := fun {w : World} (h : V7 w) => zMe (P := Tryz.prog) (f := 106) (vl := [.string (bs s), .string (bs [46])]) rfl (zOh s hs) (w := w) h
 have c2 := fun t (ht : t.length ≤ 4294967296) (w : World) (h : V7 w) => zMc (P := Tryz.prog) (f := 107) (vl := [.string (bs t), .int .i64 1, .int .i64 12]) rfl (zBw t 1 12 ht) (w := w) h
 unfold Y8
 cases q : zUu s [46] with
 | false =>
  rw [q, if_neg (by decide)] at c1
  rw [Bool.false_and]
  go_enter Tryz.func86, Tryz.ntmps86
  go_wp2_with (first | (go_at_call 106; refine (c1 hL).mono ?_; rintro e w' ⟨rfl, hb⟩))
  go_ret2
  exact ⟨rfl, by assumption⟩
 | true =>
  rw [q] at c1
  have c3 := c2 (f8 s) (by unfold f8; simp; omega)
  rw [if_pos rfl] at c1
  rw [Bool.true_and]
  cases q2 : x6 (f8 s) 1 12 with
  | false =>
   rw [q2] at c3
   go_enter Tryz.func86, Tryz.ntmps86
   go_wp2_with (first | (go_at_call 106; refine (c1 hL).mono ?_; rintro e w1 ⟨rfl, hb1⟩) | (go_at_call 107; refine (c3 _ (zFx hL (by assumption))).mono ?_; rintro e w2 ⟨rfl, hb2⟩))
   go_ret2
   exact ⟨rfl, Below.trans (by assumption) (Below.mono (by assumption) (Below.size (by assumption)))⟩
  | true =>
   rw [q2] at c3
   go_enter Tryz.func86, Tryz.ntmps86
   go_wp2_with (first | (go_at_call 106; refine (c1 hL).mono ?_; rintro e w1 ⟨rfl, hb1⟩) | (go_at_call 107; refine (c3 _ (zFx hL (by assumption))).mono ?_; rintro e w2 ⟨rfl, hb2⟩))
   go_ret2
   exact ⟨rfl, Below.trans (by assumption) (Below.mono (by assumption) (Below.size (by assumption)))⟩
theorem zIn (b : ByteArray) (w : World) (hg : w.cell? ⟨0, 0, none⟩ = some (.iface 257 (.agg #[hdl 169]))) :
  Calls Tryz.prog 87 #[.iface 172 (.string b), .iface 174 (.pointer (some ⟨w.heap.size, 0, none⟩))] (w.alloc (.cells #[.string ⟨#[]⟩] 172)) fun e w' => e = .returned (.bool true) ∧ Below w.heap.size w w' := by
 have hlt : 0 < w.heap.size := by
  rcases Nat.eq_zero_or_pos w.heap.size with h0 | h
  ·simp [World.cell?, h0] at hg
  ·exact h
 refine (zIm b ⟨w.heap.size, 0, none⟩ (.string ⟨#[]⟩) _ ?_ (by simp) (by simp)).mono ?_
 ·rw [World.cell?_alloc_lt _ _ ⟨0, 0, none⟩ hlt]; exact hg
 ·rintro e w' ⟨rfl, rfl⟩
  refine ⟨rfl, Below.setCell (Below.alloc (Below.alloc (Below.alloc (Below.alloc (Below.alloc (Below.refl _ _) ?_ _) ?_ _) ?_ _) ?_ _) ?_ _) ?_ _⟩
  all_goals simp
  all_goals omega
theorem zIR (s : Str) (hs : s.length ≤ 4294967296) (w : World) (hL : V7 w) (hg : w.cell? ⟨0, 0, none⟩ = some (.iface 257 (.agg #[hdl 169]))) : Calls Tryz.prog 45 #[.string (bs s)] w fun e w' =>
  e = .returned (.tuple #[.string (bs (if Y8 s = true then f8 s else [])), .int .i64 (if Y8 s = true then 0 else 2)]) ∧ Below w.heap.size w w' := by
 have hp := zNM s hs w hL
 have hlt : 0 < w.heap.size := by
  rcases Nat.eq_zero_or_pos w.heap.size with h0 | h
  ·simp [World.cell?, h0] at hg
  ·exact h
 cases q : Y8 s with
 | true =>
  rw [q, if_pos rfl, if_pos rfl] at hp
  rw [if_pos rfl, if_pos rfl]
  go_enter Tryz.func45, Tryz.ntmps45
  go_wp2_with (first | (go_at_call 86; refine hp.mono ?_; rintro e w1 ⟨rfl, hb1⟩) | (go_at_call 87; refine (zIx _ _).mono ?_; rintro e w' ⟨rfl, rfl⟩))
  go_ret2
  exact ⟨rfl, Below.alloc (by assumption) (Below.size (by assumption)) _⟩
 | false =>
  rw [q, if_neg (by decide), if_neg (by decide)] at hp
  rw [if_neg (by decide), if_neg (by decide)]
  go_enter Tryz.func45, Tryz.ntmps45
  go_wp2_with (first | (go_at_call 86; refine hp.mono ?_; rintro e w1 ⟨rfl, hb1⟩; have hg1 := (hb1.cell (p := ⟨0, 0, none⟩) hlt).trans hg) | (go_at_call 87; refine (zIn _ _ (by assumption)).mono ?_; rintro e w' ⟨rfl, hb2⟩))
  go_ret2
  exact ⟨rfl, Below.trans (by assumption) (Below.mono (by assumption) (Below.size (by assumption)))⟩
end Go.Abs

namespace Go.Abs
open Go Go.Proofs Tryz
attribute [local irreducible] q9 Hold y2
attribute [local instance] T0
theorem zMK {s : Str} (v : ValidN s) : 1 ≤ (zUN s).length ∧ (zUN s).length ≤ 12 ∧ (zUN s).all x5 = true := by
 have h := A4 v
 unfold x6 at h
 simp only [Bool.and_eq_true, decide_eq_true_eq] at h
 exact ⟨h.1, h.2.1, h.2.2⟩
theorem zPD (s : Str) (hs : s.length ≤ 4294967296) : zUL prog 45 [sV s] [] (.tup [sV (if Y8 s = true then f8 s else []), iV (if Y8 s = true then 0 else 2)]) [] :=
 zMd func45 rfl [.string (bs s)] (.string (bs (if Y8 s = true then f8 s else []))) (.int .i64 (if Y8 s = true then 0 else 2)) rfl rfl (fun w hl => zIR s hs w hl (hl (0, _) (List.mem_singleton.2 rfl)))
theorem zO3 (s : Str) (l : List Str) (q : zA5 s l = 0) : zUL prog 13 [sV s, y4 l] [] (.tup [.own 0 1 0 (zU2 s l).length, iV 0]) [.row 1 ((zU2 s l).map iV)] := by
 have q1 : Y8 s = true := by
  cases h : Y8 s with
  | true => rfl
  | false => unfold zA5 at q; rw [h, if_neg (by decide)] at q; cases q
 have q2 : a9 l = 0 := by unfold zA5 at q; rwa [q1, if_pos rfl] at q
 obtain ⟨k1, k2, k3, k4⟩ := zOI q1
 have hv := zBd q2
 have h6 := zC9 q2
 have s1 := zPD s (by omega)
 have s2 := zDn l (by omega)
 have hks := fun i (hi : i < l.length) => zMK (hv _ (u5 hi))
 have s3 := fun i (hi : i < l.length) => H6 (l.getD i default) (hv _ (u5 hi)).form (by have := (hv _ (u5 hi)).len; omega)
 have s4 := fun i (hi : i < l.length) => zHT (f8 s) (zUN (l.getD i default)) k1 (by omega) (hks i hi).2.2 (by have := hks i hi; omega)
 rw [q1, if_pos rfl, if_pos rfl] at s1
 rw [q2] at s2
 have h0 : [] ++ T5 (f8 s) l 0 = zU2 s l := rfl
 generalize zU2 s l = T at *
 generalize f8 s = k at *
 have hca : y9 prog 46 = true := by kernel_rfl
 clear q q1 q2 k3 k4 hks hv
 refine z9 func13 rfl (fun E hE => ?_); simp only [go_sem, ntmps13]
 repeat' (first | ((refine zN2 (v := .string (bs k)) 1 rfl rfl rfl rfl ?_; simp only [List.take_succ_cons, List.take_zero, List.drop_succ_cons, List.drop_zero])) | (refine Qr rfl ?_; try intro _ hK; try simp only [go_sem, *]) | refine Qh rfl ?_ | (refine Qc rfl rfl ?_ ?_ <;> (intro hb; have hc := hb; try simp only [go_sem] at hc)) | refine z8 rfl ?_ | (refine u0 (s1) ?_ ?_; (focus (simp only [go_sem, *]; done)); simp only [go_sem, *]) | (refine u0 (s2) ?_ ?_; (focus (simp only [go_sem, *]; done)); simp only [go_sem, *]) | ((with_reducible apply And.intro); focus omega) | (refine z7 hK ?_; clear hK; simp only [go_sem, *]) | simp only [z6, z5, go_sem, *])
 all_goals try contradiction
 refine Q8 rfl (l.length) (fun i (xs : List Int) => xs ++ T5 k l i = T ∧ xs.length ≤ i) 45 (fun i xs => [(30, iV i), (29, iV l.length), (28, y4 l), (10, .own 0 1 0 xs.length), (9, G9 46 (.string (bs k)))]) (fun i xs => [.row 1 (xs.map iV)]) [none] [] ([]) (by exact ⟨h0, by simp⟩) ?_; intro i xs hi hP
 clear h0 s1 s2
 obtain ⟨hP, hx⟩ := hP
 have hwi : IntKind.i64.wrap ((i : Int) + 1) = ((i + 1 : Nat) : Int) := u6 (by omega)
 by_cases hi2 : i < l.length
 ·have hii : (i : Int) < (l.length : Int) := by omega
  rw [zHe hi2] at hP
  have t3 := s3 i hi2
  have t4 := s4 i hi2
  clear s3 s4
  generalize hye : l.getD i default = y at *
  generalize zUN y = ky at *
  cases hb2 : j4 k ky with
  | true =>
   rw [hb2] at t4
   rw [hb2, if_pos rfl] at hP
   have hP : (xs ++ [(i : Int)]) ++ T5 k l (i + 1) = T := by rw [← hP]; simp
   clear hb2
   repeat' (first | ((refine zG0 (v := .string (bs k)) 3 rfl rfl rfl hca rfl rfl ?_; simp only [List.take_succ_cons, List.take_zero, List.drop_succ_cons, List.drop_zero])) | (refine Qr rfl ?_; try intro _ hK; try simp only [go_sem, *]) | refine Qh rfl ?_ | (refine Qc rfl rfl ?_ ?_ <;> (intro hb; have hc := hb; try simp only [go_sem] at hc)) | refine z8 rfl ?_ | (refine u0 (t3) ?_ ?_; (focus (simp only [go_sem, *]; done)); simp only [go_sem, *]) | ((with_reducible apply And.intro); focus omega) | (refine z7 hK ?_; clear hK; simp only [go_sem, *]) | simp only [z6, z5, go_sem, *])
   refine zCG () [] [] (zHY t4) (by simp) (by simp only [go_sem]) trivial (by simp) (.inl rfl) (by simp [go_sem]) (by simp [go_sem]) (fun _ => ?_)
   simp only [go_sem]
   repeat' (first | (refine Qr rfl ?_; try intro _ hK; try simp only [go_sem, *]) | refine Qh rfl ?_ | (refine Qc rfl rfl ?_ ?_ <;> (intro hb; have hc := hb; try simp only [go_sem] at hc)) | refine z8 rfl ?_ | ((with_reducible apply And.intro); focus omega) | (refine z7 hK ?_; clear hK; simp only [go_sem, *]) | simp only [z6, z5, go_sem, *])
   all_goals first | contradiction | omega | skip
   exact r7 (i' := i + 1) [some 2] [] (xs ++ [(i : Int)]) (by exact ⟨hP, by simp; omega⟩)
  | false =>
   rw [hb2] at t4
   rw [hb2, if_neg (by decide)] at hP
   have hP : xs ++ T5 k l (i + 1) = T := hP
   clear hb2
   repeat' (first | ((refine zG0 (v := .string (bs k)) 3 rfl rfl rfl hca rfl rfl ?_; simp only [List.take_succ_cons, List.take_zero, List.drop_succ_cons, List.drop_zero])) | (refine Qr rfl ?_; try intro _ hK; try simp only [go_sem, *]) | refine Qh rfl ?_ | (refine Qc rfl rfl ?_ ?_ <;> (intro hb; have hc := hb; try simp only [go_sem] at hc)) | refine z8 rfl ?_ | (refine u0 (t3) ?_ ?_; (focus (simp only [go_sem, *]; done)); simp only [go_sem, *]) | ((with_reducible apply And.intro); focus omega) | (refine z7 hK ?_; clear hK; simp only [go_sem, *]) | simp only [z6, z5, go_sem, *])
   refine zCG () [] [] (zHY t4) (by simp) (by simp only [go_sem]) trivial (by simp) (.inl rfl) (by simp [go_sem]) (by simp [go_sem]) (fun _ => ?_)
   simp only [go_sem]
   repeat' (first | (refine Qr rfl ?_; try intro _ hK; try simp only [go_sem, *]) | refine Qh rfl ?_ | (refine Qc rfl rfl ?_ ?_ <;> (intro hb; have hc := hb; try simp only [go_sem] at hc)) | refine z8 rfl ?_ | ((with_reducible apply And.intro); focus omega) | (refine z7 hK ?_; clear hK; simp only [go_sem, *]) | simp only [z6, z5, go_sem, *])
   all_goals first | contradiction | omega | skip
   exact r7 (i' := i + 1) [some 0] [] (xs) (by exact ⟨hP, by omega⟩)
 ·have hii : ¬ (i : Int) < (l.length : Int) := by omega
  rw [zHd (by omega), List.append_nil] at hP
  subst hP
  clear s3 s4
  repeat' (first | (refine Qr rfl ?_; try intro _ hK; try simp only [go_sem, *]) | refine Qh rfl ?_ | (refine Qc rfl rfl ?_ ?_ <;> (intro hb; have hc := hb; try simp only [go_sem] at hc)) | refine z8 rfl ?_ | ((with_reducible apply And.intro); focus omega) | (refine z7 hK ?_; clear hK; simp only [go_sem, *]) | simp only [z6, z5, go_sem, *])
  all_goals first | contradiction | omega | skip
  refine ⟨[_, _], [some 0], [], ⟨rfl, rfl, trivial⟩, ?_⟩
  simp only [go_sem, *]
end Go.Abs

namespace Go.Abs
open Go Go.Proofs Tryz
attribute [local irreducible] q9 Hold y2
variable [Cur]
attribute [go_sem] List.length_range
abbrev pnV (n : Nat) : AV := iV (n : Int)
theorem zNR (cf : Nat → Nat → Int) (xs : List Nat) : xs = a8 cf (xs.take 1) ++ xs.drop 1 := by
 cases xs with
 | nil => rfl
 | cons x r => simp [a8, zUj, zU5]
def zB9 (cf : Nat → Nat → Int) (xs cur : List Nat) (i : Nat) : Prop := cur = a8 cf (xs.take (i + 1)) ++ xs.drop (i + 1)
def NoS (_ : Nat) : Prop := True
def zBG (sec : TypeId) (ps : List AV) (N : Nat) (cf : Nat → Nat → Int) : Prop := ∀ a b : Nat, a < N → b < N → zUL prog 70 [pnV a, pnV b, .ptr 0 0, .ptr 1 0] [.box [.raw (.iface sec (.agg #[]))], .box [.list ps]] (iV (cf a b)) [.box [.raw (.iface sec (.agg #[]))], .box [.list ps]]
theorem zP2 (sec : TypeId) (ps : List AV) (N : Nat) (cf : Nat → Nat → Int) (hf : zBG sec ps N cf) (xs : List Nat) (h1 : xs.length ≤ 20) (hx : ∀ x, x ∈ xs → x < N) :
  zUL prog 123 [.own 0 1 0 xs.length, iV 0, iV xs.length, .fn 70 [.ptr 1 0, .ptr 2 0]] [.row 1 (xs.map pnV), .box [.raw (.iface sec (.agg #[]))], .box [.list ps]] (.tup []) [.row 1 ((a8 cf xs).map pnV), .box [.raw (.iface sec (.agg #[]))], .box [.list ps]] := by
 have hca : y9 prog 70 = true := by kernel_rfl
 refine z9 func123 rfl (fun E hE => ?_); simp only [go_sem, ntmps123]
 have hw0 : IntKind.i64.wrap 1 = (1 : Int) := wrap_i64 (by omega) (by omega)
 repeat' (first | (refine Qr rfl ?_; try intro _ hK; try simp only [go_sem, *]) | (refine Qi rfl rfl rfl rfl ?_ ?_ <;> (intro hb; (try intro _ hK); have hc := hb; try simp only [go_sem] at hc; simp only [go_sem, *])) | refine Qh rfl ?_ | refine Qd rfl (by kernel_rfl) ?_ | (refine Qc rfl rfl ?_ ?_ <;> (intro hb; have hc := hb; try simp only [go_sem] at hc)) | refine z8 rfl ?_ | (refine Qb ?_ ?_; focus kernel_rfl) | ((with_reducible apply And.intro); focus omega) | (refine z7 hK ?_; clear hK; simp only [go_sem, *]) | simp only [z6, z5, go_sem, *])
 refine Q8 rfl (xs.length) (fun i (cur : List Nat) => zB9 cf xs cur i) 53 (fun i cur => [(8, iV ((i : Int) + 1)), (0, .own 0 1 0 xs.length), (1, iV 0), (2, iV xs.length), (3, .fn 70 [.ptr 1 0, .ptr 2 0])]) (fun i cur => [.row 1 (cur.map pnV), .box [.raw (.iface sec (.agg #[]))], .box [.list ps]]) [some 0, some 1, some 2] [] (xs) (by exact zNR cf xs) ?_; intro i cur hi hP
 have hw : i < xs.length → IntKind.i64.wrap ((i : Int) + 1 + 1) = (((i + 1 : Nat) : Int) + 1) := fun h => by rw [wrap_i64 (by omega) (by omega)]; omega
 have hcm : ((i : Int) + 1 < (xs.length : Int)) = (i + 1 < xs.length) := by simp only [eq_iff_iff]; omega
 repeat' (first | (refine Qr rfl ?_; try intro _ hK; try simp only [go_sem, *]) | (refine Qi rfl rfl rfl rfl ?_ ?_ <;> (intro hb; (try intro _ hK); have hc := hb; try simp only [go_sem] at hc; simp only [go_sem, *])) | refine Qh rfl ?_ | refine Qd rfl (by kernel_rfl) ?_ | (refine Qc rfl rfl ?_ ?_ <;> (intro hb; have hc := hb; try simp only [go_sem] at hc)) | refine z8 rfl ?_ | (refine Qb ?_ ?_; focus kernel_rfl) | ((with_reducible apply And.intro); focus omega) | (refine z7 hK ?_; clear hK; simp only [go_sem, *]) | simp only [z6, z5, go_sem, *])
 ·have hlt : i + 1 < xs.length := by assumption
  have hlt' : i < xs.length := by omega
  obtain ⟨S, hS⟩ : ∃ S, S = a8 cf (xs.take (i + 1)) := ⟨_, rfl⟩
  have hSl : S.length = i + 1 := by rw [hS, zCz]; simp; try omega
  obtain ⟨x, hxx⟩ : ∃ x, x = xs.getD (i + 1) default := ⟨_, rfl⟩
  obtain ⟨R, hR⟩ : ∃ R, R = xs.drop (i + 1 + 1) := ⟨_, rfl⟩
  have hxl : x < N := by rw [hxx]; exact hx _ (u5 hlt)
  have hSm : ∀ k, k < S.length → S.getD k default < N := fun k hk => by
   have h2 : S.getD k default ∈ S := u5 hk
   rw [hS] at h2
   have h3 := (zC0 cf (xs.take (i + 1))).mem_iff.1 h2
   rw [← hS] at h3
   exact hx _ (List.mem_of_mem_take h3)
  have hcur : cur = S ++ x :: R := by
   unfold zB9 at hP
   rw [hP, hS, hxx, hR, o5 hlt]
  have hfin : zUj cf S x ++ R = a8 cf (xs.take (i + 1 + 1)) ++ xs.drop (i + 1 + 1) := by
   rw [hS, hxx, hR, zQT hlt, zMF]
  have hst : InsP cf S x R cur 0 := by rw [hcur]; exact InsP.start cf S x R
  have hRl : R.length = xs.length - (i + 2) := by rw [hR]; simp; try omega
  clear hS hxx hR hcur hP
  refine Q8 rfl (i + 1) (fun d (cur : List Nat) => InsP cf S x R cur d) 53 (fun d cur => [(9, iV (((i + 1) - d : Nat) : Int)), (8, iV ((i : Int) + 1)), (0, .own 0 1 0 xs.length), (1, iV 0), (2, iV xs.length), (3, .fn 70 [.ptr 1 0, .ptr 2 0])]) (fun d cur => [.row 1 (cur.map pnV), .box [.raw (.iface sec (.agg #[]))], .box [.list ps]]) [some 0, some 1, some 2] [] (cur) (by exact hst) ?_; intro d cur hd hQ
  have hcl : cur.length = xs.length := by rw [hQ.1, zJw]; omega
  have gx : cur.getD (i + 1 - d) default = x := by rw [hQ.1, ← hSl]; exact zJy S x R (by omega)
  have gy : d < i + 1 → cur.getD (i + 1 - d - 1) default = S.getD (i + 1 - d - 1) default := fun h => by rw [hQ.1, ← hSl]; exact zJz S x R (by omega)
  have hwk : 0 < i + 1 - d → IntKind.i64.wrap (((i + 1 - d : Nat) : Int) - 1) = ((i + 1 - d - 1 : Nat) : Int) := fun h => by rw [wrap_i64 (by omega) (by omega)]; omega
  have hnx : i + 1 - (d + 1) = i + 1 - d - 1 := by omega
  have hkl : i + 1 - d < xs.length := by omega
  have hkl1 : i + 1 - d - 1 < xs.length := by omega
  have hd1 : 0 < i + 1 - d → d < i + 1 := fun h => by omega
  by_cases hd2 : d < i + 1
  ·have sf := hf x (S.getD (i + 1 - d - 1) default) hxl (hSm _ (by omega))
   have gy2 := gy hd2
   clear hf gy
   repeat' (first | (refine Qr rfl ?_; try intro _ hK; try simp only [go_sem, *]) | (refine Qi rfl rfl rfl rfl ?_ ?_ <;> (intro hb; (try intro _ hK); have hc := hb; try simp only [go_sem] at hc; simp only [go_sem, *])) | refine Qh rfl ?_ | refine Qd rfl (by kernel_rfl) ?_ | (refine Qc rfl rfl ?_ ?_ <;> (intro hb; have hc := hb; try simp only [go_sem] at hc)) | refine z8 rfl ?_ | (refine Qb ?_ ?_; focus kernel_rfl) | (refine u9 [1, 2] (sf) ?_; simp only [go_sem, *]) | ((with_reducible apply And.intro); focus omega) | (refine z7 hK ?_; clear hK; simp only [go_sem, *]) | simp only [z6, z5, go_sem, *])
   all_goals try (exfalso; omega)
   ·exact r7 (i' := d + 1) [some 0, some 1, some 2] [] ((cur.set (i + 1 - d) (S.getD (i + 1 - d - 1) default)).set (i + 1 - d - 1) x) (by have := InsP.next cf hQ (by omega) (by rw [hSl]; assumption); rwa [hSl] at this)
   ·have hs := InsP.stop cf hQ (by omega) (fun _ => by rw [hSl]; omega)
    exact r7 (i' := i + 1) [some 0, some 1, some 2] [] (cur) (by rw [hs]; exact hfin)
  ·have hs := InsP.stop cf hQ (by omega) (fun h => by omega)
   clear hf gy
   repeat' (first | (refine Qr rfl ?_; try intro _ hK; try simp only [go_sem, *]) | (refine Qi rfl rfl rfl rfl ?_ ?_ <;> (intro hb; (try intro _ hK); have hc := hb; try simp only [go_sem] at hc; simp only [go_sem, *])) | refine Qh rfl ?_ | refine Qd rfl (by kernel_rfl) ?_ | (refine Qc rfl rfl ?_ ?_ <;> (intro hb; have hc := hb; try simp only [go_sem] at hc)) | refine z8 rfl ?_ | (refine Qb ?_ ?_; focus kernel_rfl) | ((with_reducible apply And.intro); focus omega) | (refine z7 hK ?_; clear hK; simp only [go_sem, *]) | simp only [z6, z5, go_sem, *])
   all_goals try (exfalso; omega)
   exact r7 (i' := i + 1) [some 0, some 1, some 2] [] (cur) (by rw [hs]; exact hfin)
 ·refine ⟨[], [some 0, some 1, some 2], [], trivial, ?_⟩
  have e1 : xs.take (i + 1) = xs := List.take_of_length_le (by omega)
  have e2 : xs.drop (i + 1) = [] := Z5 (by omega)
  unfold zB9 at hP
  rw [e1, e2, List.append_nil] at hP
  rw [hP]
  simp only [go_sem, Q9, *]
theorem zP4 (sec : TypeId) (ps : List AV) (N : Nat) (cf : Nat → Nat → Int) (hf : zBG sec ps N cf) (xs : List Nat) (h1 : xs.length ≤ 12) (hx : ∀ x, x ∈ xs → x < N) :
  zUL prog 97 [.own 0 1 0 xs.length, iV xs.length, .fn 70 [.ptr 1 0, .ptr 2 0]] [.row 1 (xs.map pnV), .box [.raw (.iface sec (.agg #[]))], .box [.list ps]] (.tup []) [.row 1 ((a8 cf xs).map pnV), .box [.raw (.iface sec (.agg #[]))], .box [.list ps]] := by
 have si := zP2 sec ps N cf hf xs (by omega) hx
 have hli : ((a8 cf xs).map pnV).length = xs.length := by simp [zCz]
 generalize a8 cf xs = ys at *
 clear hf hx
 have g1 : ¬ ((20 : Int) ≤ (xs.length : Int)) := by omega
 have g2 : ¬ ((20 : Int) < (xs.length : Int)) := by omega
 have g3 : IntKind.i64.wrap ((20 : Int) + 20) = 40 := by decide
 refine z9 func97 rfl (fun E hE => ?_); simp only [go_sem, ntmps97]
 repeat' (first | (refine Qr rfl ?_; try intro _ hK; try simp only [go_sem, *]) | refine Qh rfl ?_ | (refine Qc rfl rfl ?_ ?_ <;> (intro hb; have hc := hb; try simp only [go_sem] at hc)) | refine z8 rfl ?_ | ((with_reducible apply And.intro); focus omega) | (refine z7 hK ?_; clear hK; simp only [go_sem, *]) | simp only [z6, z5, go_sem, *])
 refine x8 rfl (1) (fun i => NoS i) 63 (fun i => [(8, iV 20), (7, iV 0), (6, iV 20), (0, .own 0 1 0 xs.length), (1, iV xs.length), (2, .fn 70 [.ptr 1 0, .ptr 2 0])]) (fun i => [.row 1 (xs.map pnV), .box [.raw (.iface sec (.agg #[]))], .box [.list ps]]) [some 0, some 1, some 2] [] (by trivial) ?_; intro i hi hP
 repeat' (first | (refine Qr rfl ?_; try intro _ hK; try simp only [go_sem, *]) | refine Qh rfl ?_ | (refine Qc rfl rfl ?_ ?_ <;> (intro hb; have hc := hb; try simp only [go_sem] at hc)) | refine z8 rfl ?_ | (refine u9 [0, 1, 2] (si) ?_; simp only [go_sem, *]) | ((with_reducible apply And.intro); focus omega) | (refine z7 hK ?_; clear hK; simp only [go_sem, *]) | simp only [z6, z5, go_sem, *])
 all_goals try (exfalso; omega)
 refine x8 rfl (1) (fun i => NoS i) 63 (fun i => [(6, iV 20), (0, .own 0 1 0 xs.length), (1, iV xs.length), (2, .fn 70 [.ptr 1 0, .ptr 2 0])]) (fun i => [.row 1 (ys.map pnV), .box [.raw (.iface sec (.agg #[]))], .box [.list ps]]) [some 0, some 1, some 2] [] (by trivial) ?_; intro i hi hP
 repeat' (first | (refine Qr rfl ?_; try intro _ hK; try simp only [go_sem, *]) | refine Qh rfl ?_ | (refine Qc rfl rfl ?_ ?_ <;> (intro hb; have hc := hb; try simp only [go_sem] at hc)) | refine z8 rfl ?_ | ((with_reducible apply And.intro); focus omega) | (refine z7 hK ?_; clear hK; simp only [go_sem, *]) | simp only [z6, z5, go_sem, *])
 all_goals try (exfalso; omega)
 refine ⟨[], [some 0, some 1, some 2], [], trivial, ?_⟩
 simp only [go_sem, Q9, *]
theorem zPz (sec : TypeId) (ps : List AV) (N : Nat) (cf : Nat → Nat → Int) (hf : zBG sec ps N cf) (xs : List Nat) (h1 : xs.length ≤ 12) (hx : ∀ x, x ∈ xs → x < N) :
  zUL prog 69 [.own 0 1 0 xs.length, .fn 70 [.ptr 1 0, .ptr 2 0]] [.row 1 (xs.map pnV), .box [.raw (.iface sec (.agg #[]))], .box [.list ps]] (.tup []) [.row 1 ((a8 cf xs).map pnV), .box [.raw (.iface sec (.agg #[]))], .box [.list ps]] := by
 have si := zP4 sec ps N cf hf xs h1 hx
 generalize a8 cf xs = ys at *
 clear hf hx
 refine z9 func69 rfl (fun E hE => ?_); simp only [go_sem, ntmps69]
 repeat' (first | (refine Qr rfl ?_; try intro _ hK; try simp only [go_sem, *]) | refine Qh rfl ?_ | (refine Qc rfl rfl ?_ ?_ <;> (intro hb; have hc := hb; try simp only [go_sem] at hc)) | refine z8 rfl ?_ | (refine u9 [0, 1, 2] (si) ?_; simp only [go_sem, *]) | ((with_reducible apply And.intro); focus omega) | (refine z7 hK ?_; clear hK; simp only [go_sem, *]) | simp only [z6, z5, go_sem, *])
 refine ⟨[], [some 0, some 1, some 2], [], trivial, ?_⟩
 simp only [go_sem, Q9, *]
end Go.Abs

namespace Go.Abs
open Go Go.Proofs Tryz
attribute [local irreducible] q9 Hold y2
variable [Cur]
omit [Cur] in
theorem zOF {l : List Nat} {a b : Nat} (ha : a < l.length) (hb : b < l.length) : ((l.set a (l.getD b 0)).set b (l.getD a 0)).Perm l := by
 have e1 : l.getD b 0 = l[b] := by simp [List.getD, hb]
 have e2 : l.getD a 0 = l[a] := by simp [List.getD, ha]
 rw [e1, e2]
 exact List.set_set_perm ha hb
theorem zEo (d : Dice) (n : Nat) (hn : 1 ≤ n ∧ n ≤ 1000) (h : DOk d) : ∃ (l : List Nat) (d' : Dice), zUL prog 61 [.ptr 0 0, iV n] [y3 d] (.own 1 1 0 n) [y3 d', .row 1 (l.map pnV)] ∧ l.Perm (List.range n) ∧ DOk d' := by
 obtain ⟨q, hq0, hqR, hqG⟩ := zA0 (S := List Nat × Dice) (n - 1) (List.range n, d) (fun i s s' => ∃ k : Nat, k < n ∧ zUL prog 27 [.ptr 0 0, iV ((n - 1 - i : Nat) : Int)] [y3 s.2] (iV k) [y3 s'.2] ∧ s'.1 = (s.1.set (n - 1 - i) (s.1.getD k 0)).set k (s.1.getD (n - 1 - i) 0))
  (fun _ s => s.1.Perm (List.range n) ∧ DOk s.2) ⟨.refl _, h⟩ (fun i s hi ⟨hp, hd⟩ => by
   obtain ⟨k, d1, st, hk, _, hd1⟩ := E1 s.2 ((n - 1 - i : Nat) : Int) hd (by omega)
   have hk := hk (by omega)
   have hl : s.1.length = n := by rw [hp.length_eq]; simp
   exact ⟨((s.1.set (n - 1 - i) (s.1.getD k 0)).set k (s.1.getD (n - 1 - i) 0), d1), ⟨k, by omega, st, rfl⟩, (zOF (by omega) (by omega)).trans hp, hd1⟩)
 have hl : ∀ i, i ≤ n - 1 → (q i).1.length = n := fun i hi => by rw [(hqG i hi).1.length_eq]; simp
 refine ⟨(q (n - 1)).1, (q (n - 1)).2, ?_, (hqG _ (Nat.le_refl _)).1, (hqG _ (Nat.le_refl _)).2⟩
 clear hqG
 have hr0 : List.range 0 = [] := rfl
 refine z9 func61 rfl (fun E hE => ?_); simp only [go_sem, ntmps61]
 refine wk1 trivial ?_
 refine x8 rfl (n) (fun i => NoS i) 44 (fun i => [(6, iV i), (5, .own 1 1 0 i), (0, .ptr 0 0), (1, iV n)]) (fun i => [y3 d, .row 1 ((List.range i).map pnV)]) [some 0, none] [] (by trivial) ?_; intro i hi hP
 rcases Nat.lt_or_ge i n with hi2 | hi2
 ·have hd1 : decide ((i : Int) < (n : Int)) = true := by simp; omega
  have hd2 : decide (i < n) = true := by simp; omega
  clear hq0 hqR hl
  refine wk1 trivial ?_
  clear hd1 hd2
  have e : (List.range (i + 1)).map pnV = (List.range i).map pnV ++ [pnV i] := by rw [List.range_succ, List.map_append]; rfl
  exact y8 (i' := i + 1) [some 0, some 3] [] (by trivial)
 ·have he : i = n := by omega
  subst he
  have hd1 : decide ((i : Int) < (i : Int)) = false := by simp
  have hd2 : decide (i < i) = false := by simp
  have hw0 : IntKind.i64.wrap ((i : Int) - 1) = ((i - 1 : Nat) : Int) := by rw [wrap_i64 (by omega) (by omega)]; omega
  refine wk1 trivial ?_
  clear hd1 hd2
  refine x8 rfl (i - 1) (fun r => NoS r) 44 (fun r => [(7, iV ((i - 1 - r : Nat) : Int)), (5, .own 1 1 0 i), (0, .ptr 0 0)]) (fun r => [y3 (q r).2, .row 1 ((q r).1.map pnV)]) [some 0, some 1] [] (by trivial) ?_; intro r hr hP
  clear hq0 hw0
  rcases Nat.lt_or_ge r (i - 1) with hr2 | hr2
  ·obtain ⟨k, hk, st, hs⟩ := hqR r hr2
   have hlr := hl r hr
   have hm : i - 1 - r < i := by omega
   have hd1 : decide (((i - 1 - r : Nat) : Int) > 0) = true := by simp; omega
   have hd2 : decide (0 < i - 1 - r) = true := by simp; omega
   have hw2 : IntKind.i64.wrap (((i - 1 - r : Nat) : Int) - 1) = ((i - 1 - (r + 1) : Nat) : Int) := by rw [wrap_i64 (by omega) (by omega)]; omega
   obtain ⟨l, d1, hq1⟩ : ∃ l d1, q r = (l, d1) := ⟨_, _, rfl⟩
   obtain ⟨l', d2, hq2⟩ : ∃ l' d2, q (r + 1) = (l', d2) := ⟨_, _, rfl⟩
   rw [hq1] at hlr st hs ⊢
   rw [hq2] at st hs
   simp only at hlr st hs ⊢
   have g1 : (l.map pnV).getD k AV.any = pnV (l.getD k 0) := by simp [List.getD, show k < l.length by omega]
   have g2 : (l.map pnV).getD (i - 1 - r) AV.any = pnV (l.getD (i - 1 - r) 0) := by simp [List.getD, show i - 1 - r < l.length by omega]
   clear hl hqR
   generalize hmm : i - 1 - r = m at *
   have e : l'.map pnV = ((l.map pnV).set m (pnV (l.getD k 0))).set k (pnV (l.getD m 0)) := by rw [hs, List.map_set, List.map_set]
   clear hs
   refine wk1 (own [0] (st)) ?_
   clear hd1 hd2 g1 g2
   exact y8 (i' := r + 1) [some 0, some 1] [] (by trivial)
  ·have he : r = i - 1 := by omega
   subst he
   have hz : i - 1 - (i - 1) = 0 := Nat.sub_self _
   simp only [hz]
   clear hl hqR
   refine wk1 trivial ?_
   refine ⟨[_], [some 0, some 1], [], ⟨rfl, trivial⟩, ?_⟩
   simp only [go_sem, *]
end Go.Abs

namespace Go.Abs
open Go Go.Proofs Tryz
attribute [local irreducible] q9 Hold y2
variable [Cur]
def zUl (n : Int) : List Int → Nat → Int
 | [], _ => -1
 | x :: r, i => if x = n then i else zUl n r (i + 1)
omit [Cur] in
theorem zCu (n : Int) : ∀ (l : List Int) (i : Nat), (0 ≤ zUl n l i ↔ n ∈ l)
 | [], i => by simp [zUl]
 | x :: r, i => by
  rw [zUl]
  by_cases h : x = n
  ·rw [if_pos h]; simp [h]
  ·rw [if_neg h, zCu n r (i + 1)]; simp [Ne.symm h]
omit [Cur] in
theorem zCv (n : Int) : ∀ (l : List Int) (i m : Nat), n ∈ l → zUl n l i < ((i + m : Nat) : Int) → n ∈ l.take m
 | [], i, m, h, _ => by simp at h
 | x :: r, i, m, h, h2 => by
  rw [zUl] at h2
  cases m with
  | zero =>
   exfalso
   by_cases e : x = n
   ·rw [if_pos e] at h2; omega
   ·rw [if_neg e] at h2
    have := zCv n r (i + 1) 0 (by simpa [Ne.symm e] using h)
    have hlb : ∀ (l : List Int) (i : Nat), n ∈ l → (i : Int) ≤ zUl n l i := by
     intro l
     induction l with
     | nil => intro i h; cases h
     | cons y s ih =>
      intro i h
      rw [zUl]
      by_cases e : y = n
      ·rw [if_pos e]; exact Int.le_refl _
      ·rw [if_neg e]
       have := ih (i + 1) (by simpa [Ne.symm e] using h)
       omega
    have := hlb r (i + 1) (by simpa [Ne.symm e] using h)
    omega
  | succ m =>
   by_cases e : x = n
   ·simp [e]
   ·rw [if_neg e] at h2
    rw [List.take_succ_cons]
    exact List.mem_cons_of_mem _ (zCv n r (i + 1) m (by simpa [Ne.symm e] using h) (by rw [show i + 1 + m = i + (m + 1) by omega]; exact h2))
theorem zHP (l : List Int) (n : Int) (h1 : l.length ≤ 4294967296) : zUL prog 8 [.list (l.map iV), iV n] [] (iV (zUl n l 0)) [] := by
 obtain ⟨R, hR⟩ : ∃ R, zUl n (l.drop 0) 0 = R := ⟨_, rfl⟩
 have hR1 : zUl n l 0 = R := hR
 rw [hR1]
 clear hR1
 refine z9 func8 rfl (fun E hE => ?_); simp only [go_sem, ntmps8]
 refine wk1 trivial ?_
 refine x8 rfl (l.length) (fun i => zUl n (l.drop i) i = R) 19 (fun i => [(5, iV i), (0, .list (l.map iV)), (1, iV n)]) (fun i => []) [] [] (by exact hR) ?_; intro i hi hP
 clear hR
 by_cases hi : i < l.length
 ·have hi3 : (i : Int) < l.length := by omega
  rw [o5 hi, zUl] at hP
  generalize hz : l.getD i default = z at *
  by_cases hq : z = n
  ·rw [if_pos hq] at hP
   subst hP hq
   refine wk1 trivial ?_
   (refine ⟨[_], [], [], ⟨rfl, trivial⟩, ?_⟩; simp only [go_sem, *])
  ·rw [if_neg hq] at hP
   refine wk1 trivial ?_
   exact y8 (i' := i + 1) [] [] (by exact hP)
 ·have hi3 : ¬ (i : Int) < l.length := by omega
  rw [Z5 (by omega), zUl] at hP
  subst hP
  have hw : IntKind.i64.wrap (-1) = (-1 : Int) := wrap_i64 (by omega) (by omega)
  refine wk1 trivial ?_
  (refine ⟨[_], [], [], ⟨rfl, trivial⟩, ?_⟩; simp only [go_sem, *])
def zUf (x : Nat) (l : List Nat) : Int := zUl x (l.map fun k : Nat => (k : Int)) 0
omit [Cur] in
theorem idxN_ge {x : Nat} {l : List Nat} : 0 ≤ zUf x l ↔ x ∈ l := by
 unfold zUf
 rw [zCu, List.mem_map]
 exact ⟨fun ⟨y, h, e⟩ => by rw [show x = y by omega]; exact h, fun h => ⟨x, h, rfl⟩⟩
omit [Cur] in
theorem zL4 {x : Nat} {l : List Nat} {m : Nat} (h : x ∈ l) (h2 : zUf x l < m) : x ∈ l.take m := by
 have := zCv x (l.map fun k : Nat => (k : Int)) 0 m (List.mem_map.2 ⟨x, h, rfl⟩) (by unfold zUf at h2; simpa using h2)
 rw [← List.map_take, List.mem_map] at this
 obtain ⟨y, h, e⟩ := this
 rw [show x = y by omega]; exact h
theorem zHQ (x : Nat) (l : List Nat) (hl : l.length ≤ 4294967296) : zUL prog 8 [.list (l.map pnV), iV x] [] (iV (zUf x l)) [] := by
 have := zHP (l.map fun k : Nat => (k : Int)) x (by simpa using hl)
 rw [List.map_map] at this
 exact this
omit [Cur] in
theorem zNN {l : List Nat} {n m : Nat} (hp : l.Perm (List.range n)) : ((List.range n).filter fun i => decide (zUf i l < (m : Int))).length ≤ m := by
 have hnd : l.Nodup := hp.nodup_iff.2 List.nodup_range
 have h1 : ((List.range n).filter fun i => decide (zUf i l < (m : Int))).length = (l.filter fun i => decide (zUf i l < (m : Int))).length := ((hp.filter _).length_eq).symm
 rw [h1]
 have h2 : (l.drop m).filter (fun i => decide (zUf i l < (m : Int))) = [] := by
  rw [List.filter_eq_nil_iff]
  intro x hx
  have hxl := List.mem_of_mem_drop hx
  intro h
  have ht := zL4 hxl (of_decide_eq_true h)
  have := List.nodup_append.1 ((List.take_append_drop m l).symm ▸ hnd)
  exact this.2.2 x ht x hx rfl
 have h3 : l.filter (fun i => decide (zUf i l < (m : Int))) = (l.take m).filter (fun i => decide (zUf i l < (m : Int))) := by
  have e := List.filter_append (p := fun i => decide (zUf i l < (m : Int))) (l.take m) (l.drop m)
  rw [h2, List.append_nil, List.take_append_drop] at e
  exact e
 rw [h3]
 have := List.length_filter_le (fun i => decide (zUf i l < (m : Int))) (l.take m)
 simp only [List.length_take] at this
 omega
def PaP (l : List Nat) (m i : Nat) (B : List Nat) : Prop := B = (List.range i).filter (fun i => decide (zUf i l < (m : Int))) ∧ B.length ≤ i
theorem zKA (d : Dice) (n m : Nat) (hn : 1 ≤ n ∧ n ≤ 1000) (hm : m ≤ 1000) (h : DOk d) : ∃ (ws : List Nat) (d' : Dice), zUL prog 63 [.ptr 0 0, iV n, iV m] [y3 d] (.own 1 1 0 ws.length) [y3 d', .row 1 (ws.map pnV)] ∧
  ws.Pairwise (· < ·) ∧ (∀ x, x ∈ ws → x < n) ∧ ws.length ≤ m ∧ DOk d' := by
 obtain ⟨l, d', so, hp, hd⟩ := zEo d n hn h
 refine ⟨(List.range n).filter fun i => decide (zUf i l < (m : Int)), d', ?_, List.Pairwise.filter _ List.pairwise_lt_range, fun x hx => List.mem_range.1 (List.mem_filter.1 hx).1, zNN hp, hd⟩
 have hll : l.length = n := by rw [hp.length_eq]; simp
 have si := fun x => zHQ x l (by omega)
 have ht : List.take n (l.map pnV) = l.map pnV := List.take_of_length_le (by simp; omega)
 clear hp
 refine z9 func63 rfl (fun E hE => ?_); simp only [go_sem, ntmps63]
 refine wk1 (own [0] (so)) ?_
 clear so
 refine Q8 rfl (n) (fun i (B : List Nat) => PaP l m i B) 30 (fun i B => [(9, iV i), (8, .own 2 1 0 B.length), (7, .own 1 1 0 n), (0, .ptr 0 0), (1, iV n), (2, iV m)]) (fun i B => [y3 d', .row 1 (l.map pnV), .row 1 (B.map pnV)]) [some 0, some 1, none] [] (([] : List Nat)) (by exact ⟨rfl, Nat.le_refl _⟩) ?_; intro i B hi hP
 obtain ⟨hB, hBi⟩ := hP
 rcases Nat.lt_or_ge i n with hi2 | hi2
 ·have hd1 : decide ((i : Int) < (n : Int)) = true := by simp; omega
  have hd2 : decide (i < n) = true := by simp; omega
  have sx := si i
  have hn1 : decide (zUf i l < (m : Int)) = true → PaP l m (i + 1) (B ++ [i]) := fun h => ⟨by rw [List.range_succ, List.filter_append, ← hB, List.filter_cons, if_pos h, List.filter_nil], by simp; omega⟩
  have hn2 : decide (zUf i l < (m : Int)) = false → PaP l m (i + 1) B := fun h => ⟨by rw [List.range_succ, List.filter_append, ← hB, List.filter_cons, if_neg (by rw [h]; decide), List.filter_nil, List.append_nil], by omega⟩
  clear hB si
  generalize zUf i l = at_ at *
  repeat' (first | (refine Qr rfl ?_; try intro _ hK; try simp only [go_sem, *]) | refine Qh rfl ?_ | (refine Qc rfl rfl ?_ ?_ <;> (intro hb; have hc := hb; try simp only [go_sem] at hc)) | refine z8 rfl ?_ | ((with_reducible apply And.intro); focus omega) | (refine z7 hK ?_; clear hK; simp only [go_sem, *]) | simp only [z6, z5, go_sem, *])
  all_goals try contradiction
  (refine U5 [1] (sx) (by simp only [go_sem, *]) (.raw _) ?_; simp only [go_sem, *])
  by_cases hq : at_ < (m : Int)
  ·have hn3 := hn1 (by simpa using hq)
   have hd3 : decide (at_ < (m : Int)) = true := by simpa using hq
   clear hn1 hn2
   repeat' (first | (refine Qr rfl ?_; try intro _ hK; try simp only [go_sem, *]) | refine Qh rfl ?_ | (refine Qc rfl rfl ?_ ?_ <;> (intro hb; have hc := hb; try simp only [go_sem] at hc)) | refine z8 rfl ?_ | ((with_reducible apply And.intro); focus omega) | (refine z7 hK ?_; clear hK; simp only [go_sem, *]) | simp only [z6, z5, go_sem, *])
   all_goals try contradiction
   clear hd1 hd2 hd3
   exact r7 (i' := i + 1) [some 0, some 1, some 4] [] (B ++ [i]) (by exact hn3)
  ·have hn3 := hn2 (by simpa using hq)
   have hd3 : decide (at_ < (m : Int)) = false := by simpa using hq
   clear hn1 hn2
   repeat' (first | (refine Qr rfl ?_; try intro _ hK; try simp only [go_sem, *]) | refine Qh rfl ?_ | (refine Qc rfl rfl ?_ ?_ <;> (intro hb; have hc := hb; try simp only [go_sem] at hc)) | refine z8 rfl ?_ | ((with_reducible apply And.intro); focus omega) | (refine z7 hK ?_; clear hK; simp only [go_sem, *]) | simp only [z6, z5, go_sem, *])
   all_goals try contradiction
   clear hd1 hd2 hd3
   exact r7 (i' := i + 1) [some 0, some 1, some 2] [] (B) (by exact hn3)
 ·have he : i = n := by omega
  subst he
  have hd1 : decide ((i : Int) < (i : Int)) = false := by simp
  have hd2 : decide (i < i) = false := by simp
  rw [← hB]
  clear hB si
  refine wk1 trivial ?_
  refine ⟨[_], [some 0, some 2], [1], ⟨rfl, trivial⟩, ?_⟩
  simp only [go_sem, *]
end Go.Abs

namespace Go.Abs
open Go
structure Cl where
 name : Str
 under : Int
 deriving Inhabited
structure Hd where
 word : Str
 cls : Int
 see : Int
 also : List Int
 deriving Inhabited
structure Trd where
 cls : List Cl
 hds : List Hd
 deriving Inhabited
@[reducible] def Cl.enc (c : Cl) : AV := .agg [sV c.name, iV c.under]
@[reducible] def Hd.enc (h : Hd) : AV := .agg [sV h.word, iV h.cls, iV h.see, .list (h.also.map iV)]
@[reducible] def u1 (l : List Cl) : AV := .list (l.map Cl.enc)
@[reducible] def u3 (l : List Hd) : AV := .list (l.map Hd.enc)
@[reducible] def Trd.enc (t : Trd) : AV := .agg [u1 t.cls, u3 t.hds]
attribute [go_sem] Nat.sub_zero Cl.enc Hd.enc u1 u3 Trd.enc
def P6 (c : UInt8) : Bool := decide (97 ≤ c.toNat) && decide (c.toNat ≤ 122)
abbrev zDc : Str := [99, 108, 97, 115, 115]
abbrev zDd : Str := [102, 105, 110, 105, 115]
def o4 (s : Str) : Bool := !(decide (s.length = 0) || decide (12 < s.length) || decide (s = zDc) || decide (s = zDd)) && s.all P6
def btw (n lo hi : Int) : Bool := decide (lo ≤ n) && decide (n ≤ hi)
def zUm (n : Str) (y : Cl) : Bool := y.name == n
def zUq (n : Str) (y : Hd) : Bool := y.word == n
def X0 (l : List Cl) (i : Nat) : Int :=
 if o4 (l.getD i default).name = false then 2 else if (l.take i).any (zUm (l.getD i default).name) = true then 4
 else if btw (l.getD i default).under (-1) (l.length - 1) = false then 3 else if (i : Int) ≤ (l.getD i default).under then 5 else 0
def U3 (n : Nat) (i : Nat) (l : List Int) (k : Nat) : Int :=
 if btw (l.getD k 0) 0 (n - 1) = false then 3 else if l.getD k 0 = i then 9 else if 0 < k ∧ l.getD k 0 ≤ l.getD (k - 1) 0 then 5 else 0
def u4 (f : Nat → Int) : Nat → Nat → Int
 | 0, _ => 0
 | n + 1, k => if f k = 0 then u4 f n (k + 1) else f k
def W7 (x : Hd) : Int := if (x.see ≠ -1 ∧ (x.cls ≠ -1 ∨ 0 < x.also.length)) ∨ (x.see = -1 ∧ x.cls = -1 ∧ x.also.length = 0) then 8 else 0
def O7 (t : Trd) (i : Nat) : Int :=
 let x := t.hds.getD i default
 if o4 x.word = false then 2 else if (t.hds.take i).any (zUq x.word) = true then 4
 else if 0 < i ∧ v7 x.word (t.hds.getD (i - 1) default).word = true then 5
 else if btw x.cls (-1) (t.cls.length - 1) = false ∨ btw x.see (-1) (t.hds.length - 1) = false then 3 else if x.see = i then 9
 else if u4 (U3 t.hds.length i x.also) x.also.length 0 ≠ 0 then u4 (U3 t.hds.length i x.also) x.also.length 0 else W7 x
def P8 (t : Trd) : Int :=
 if 6 < t.cls.length ∨ 6 < t.hds.length then 6 else if u4 (X0 t.cls) t.cls.length 0 ≠ 0 then u4 (X0 t.cls) t.cls.length 0 else u4 (O7 t) t.hds.length 0
def NoT (_ : Nat) : Prop := True
def zUe {α : Type} (p : α → Bool) : List α → Nat → Int
 | [], _ => -1
 | x :: r, i => if p x = true then (i : Int) else zUe p r (i + 1)
theorem zCt {α : Type} (p : α → Bool) : ∀ (l : List α) (i : Nat), decide (zUe p l i ≥ 0) = l.any p
 | [], i => by simp [zUe]
 | x :: r, i => by
  rw [zUe, List.any_cons]
  cases hp : p x with
  | true => simp
  | false => rw [if_neg (by decide), zCt p r (i + 1), Bool.false_or]
theorem zKX {f : Nat → Int} {n k : Nat} (h : f k ≠ 0) : u4 f (n + 1) k = f k := if_neg h
theorem zKW {f : Nat → Int} {n k : Nat} (h : f k = 0) : u4 f (n + 1) k = u4 f n (k + 1) := if_pos h
theorem zOM (s : Str) {i : Nat} (h : i < s.length) : ((97 ≤ ((Utf8.decode ⟨s.toArray⟩ i).1 : Int) ∧ ((Utf8.decode ⟨s.toArray⟩ i).1 : Int) ≤ 122) ↔ P6 (s.getD i 0) = true) ∧ (P6 (s.getD i 0) = true → (Utf8.decode ⟨s.toArray⟩ i).2 = 1) := by
 unfold P6
 by_cases q : (s.getD i 0).toNat < 128
 ·rw [zBM h q]
  refine ⟨?_, fun _ => rfl⟩
  simp; omega
 ·have := zEl h (by omega)
  constructor
  ·simp only [Bool.and_eq_true, decide_eq_true_eq]; omega
  ·simp only [Bool.and_eq_true, decide_eq_true_eq]; omega
def SmTo (s : Str) (i : Nat) : Prop := ∀ j, j < i → P6 (s.getD j 0) = true
theorem SmTo.next {s : Str} {i : Nat} (h : SmTo s i) (hi : P6 (s.getD i 0) = true) : SmTo s (i + 1) := fun j hj => by
 by_cases e : j = i
 ·rw [e]; exact hi
 ·exact h j (by omega)
theorem SmTo.all {s : Str} {i : Nat} (h : SmTo s i) (hi : s.length ≤ i) : s.all P6 = true := by
 rw [List.all_eq_true]
 intro c hc
 obtain ⟨j, hj, rfl⟩ := List.getElem_of_mem hc
 have := h j (by omega)
 simpa [List.getD, hj] using this
theorem zIU {s : Str} {i : Nat} (hi : i < s.length) (h : ¬ P6 (s.getD i 0) = true) : s.all P6 = false := by
 rw [Bool.eq_false_iff]
 intro ha
 rw [List.all_eq_true] at ha
 exact h (by have := ha s[i] (List.getElem_mem hi); simpa [List.getD, hi] using this)
end Go.Abs

namespace Go.Abs
open Go
structure Per where
 name : Str
 street : Int
 number : Int
 head : Int
 bold : Bool
 deriving Inhabited
@[reducible] def Per.enc (p : Per) : AV := .agg [sV p.name, iV p.street, iV p.number, iV p.head, bV p.bold]
@[reducible] def f5 (l : List Per) : AV := .list (l.map Per.enc)
structure Vol where
 streets : Int
 width : Int
 rows : Int
 tr : Trd
 rules : List Rule
 people : List Per
 deriving Inhabited
@[reducible] def Vol.enc (v : Vol) : AV := .agg [iV v.streets, iV v.width, iV v.rows, u1 v.tr.cls, u3 v.tr.hds, x4 v.rules, f5 v.people]
attribute [go_sem] Per.enc f5 Vol.enc
def j5 (a b : Int) : Int := IntKind.i64.wrap (a - b)
def boV (p : Per) : Int := if p.bold = true then 1 else 0
def nmV (p q : Per) : Int := if W5 p.name q.name = 0 then l4 p.name q.name else 0
def o9 (p q : Per) : Int := orL [nmV p q, j5 p.street q.street, j5 p.number q.number, j5 p.head q.head, j5 (boV p) (boV q)]
def T4 (cf : Per → Per → Int) (st : Per → Bool) (l : List Per) : List Nat := a8 (fun a b => cf (l.getD a default) (l.getD b default)) ((List.range l.length).filter fun i => st (l.getD i default))
end Go.Abs

namespace Go.Abs
open Go Go.Proofs Tryz
attribute [local irreducible] q9 Hold y2
variable [Cur]
theorem H7 (n lo hi : Int) : zUL prog 38 [iV n, iV lo, iV hi] [] (bV (btw n lo hi)) [] := by
 refine z9 func38 rfl (fun E hE => ?_); simp only [go_sem, ntmps38]
 repeat' (first | (refine Qr rfl ?_; try intro _ hK; try simp only [go_sem, *]) | (refine Qi rfl rfl rfl rfl ?_ ?_ <;> (intro hb; (try intro _ hK); have hc := hb; try simp only [go_sem] at hc; simp only [go_sem, *])) | refine Qh rfl ?_ | (refine Qc rfl rfl ?_ ?_ <;> (intro hb; have hc := hb; try simp only [go_sem] at hc)) | refine z8 rfl ?_ | ((with_reducible apply And.intro); focus omega) | (refine z7 hK ?_; clear hK; simp only [go_sem, *]) | simp only [z6, z5, go_sem, *])
 all_goals (refine ⟨[_], [], [], ⟨rfl, trivial⟩, ?_⟩; simp only [go_sem, *])
 all_goals (unfold btw; simp_all)
 all_goals omega
theorem zHL (p : Per) : zUL prog 295 [p.enc] [] (iV (boV p)) [] := by
 unfold boV
 refine z9 func295 rfl (fun E hE => ?_); simp only [go_sem, ntmps295]
 refine wk2 trivial ?_ ?_
 all_goals (refine ⟨[_], [], [], ⟨rfl, trivial⟩, ?_⟩; simp only [go_sem, *])
theorem zPx (p q : Per) : zUL prog 294 [p.enc, q.enc] [] (iV (nmV p q)) [] := by
 have sc := zHI p.name q.name
 have e : nmV p q = if W5 p.name q.name = 0 then l4 p.name q.name else 0 := rfl
 rw [← e] at sc
 clear e
 refine z9 func294 rfl (fun E hE => ?_); simp only [go_sem, ntmps294]
 refine wk1 sc ?_
 all_goals (refine ⟨[_], [], [], ⟨rfl, trivial⟩, ?_⟩; simp only [go_sem, *])
theorem zQC (l : List Int) (hl : l.length ≤ 4294967296) : zUL prog 293 [.list (l.map iV)] [] (iV (orL l)) [] := by
 refine z9 func293 rfl (fun E hE => ?_); simp only [go_sem, ntmps293]
 refine wk1 trivial ?_
 refine x8 rfl (l.length) (fun i => orL (l.drop i) = orL l) 15 (fun i => [(7, iV i), (6, iV l.length), (5, .list (l.map iV))]) (fun i => []) [] [] (by simp) ?_; intro i hi hP
 repeat' (first | (refine Qr rfl ?_; try intro _ hK; try simp only [go_sem, *]) | refine Qh rfl ?_ | (refine Qc rfl rfl ?_ ?_ <;> (intro hb; have hc := hb; try simp only [go_sem] at hc)) | refine z8 rfl ?_ | ((with_reducible apply And.intro); focus omega) | (refine z7 hK ?_; clear hK; simp only [go_sem, *]) | simp only [z6, z5, go_sem, *])
 ·(refine ⟨[_], [], [], ⟨rfl, trivial⟩, ?_⟩; simp only [go_sem, *])
  rw [← hP, o5 ‹_›, orL, if_neg ‹_›]
 ·exact y8 (i' := i + 1) [] [] (by rw [← hP, o5 (i := i) ‹_›, orL, if_pos ‹_›])
 ·(refine ⟨[_], [], [], ⟨rfl, trivial⟩, ?_⟩; simp only [go_sem, *])
  rw [← hP, Z5 (by omega), orL]
end Go.Abs

namespace Go.Abs
open Go Go.Proofs Tryz
attribute [local irreducible] q9 Hold y2
variable [Cur]
abbrev zUn (t : TypeId) : AV := .raw (.iface t (.agg #[]))
def FiP (st : Per → Bool) (l : List Per) (i : Nat) (B : List Nat) : Prop := B = (List.range i).filter (fun k => st (l.getD k default)) ∧ B.length ≤ i
theorem FiP.zero (st : Per → Bool) (l : List Per) : FiP st l 0 [] := ⟨rfl, Nat.le_refl _⟩
theorem FiP.go {st : Per → Bool} {l : List Per} {i : Nat} {B : List Nat} (h : FiP st l i B) : (st (l.getD i default) = true → FiP st l (i + 1) (B ++ [i])) ∧ (st (l.getD i default) = false → FiP st l (i + 1) B) := by
 obtain ⟨h1, h2⟩ := h
 refine ⟨fun q => ⟨by rw [List.range_succ, List.filter_append, ← h1, List.filter_cons, if_pos (by exact q), List.filter_nil], by simp; omega⟩, fun q => ⟨by rw [List.range_succ, List.filter_append, ← h1, List.filter_cons, if_neg (by rw [Bool.not_eq_true]; exact q), List.filter_nil, List.append_nil], by omega⟩⟩
end Go.Abs

namespace Go.Abs
open Go Go.Proofs Tryz
attribute [local irreducible] q9 Hold y2
variable [Cur]
theorem zHU (p : Per) : zUL prog 325 [.agg [], p.enc] [] (bV true) [] := by
 refine z9 func325 rfl (fun E hE => ?_); simp only [go_sem, ntmps325]
 refine wk1 trivial ?_
 all_goals (refine ⟨[_], [], [], ⟨rfl, trivial⟩, ?_⟩; simp only [go_sem, *])
theorem zPT (p q : Per) : zUL prog 322 [.agg [], p.enc, q.enc] [] (iV (o9 p q)) [] := by
 have sn := zPx p q
 have s1 := zHL p
 have s2 := zHL q
 have ss := zQC [nmV p q, j5 p.street q.street, j5 p.number q.number, j5 p.head q.head, j5 (boV p) (boV q)] (by simp)
 have e : o9 p q = orL [nmV p q, j5 p.street q.street, j5 p.number q.number, j5 p.head q.head, j5 (boV p) (boV q)] := rfl
 rw [← e] at ss
 generalize o9 p q = R at *
 generalize nmV p q = n at *
 generalize boV p = c1 at *
 generalize boV q = c2 at *
 have f1 : j5 p.head q.head = IntKind.i64.wrap (p.head - q.head) := rfl
 have f2 : j5 p.street q.street = IntKind.i64.wrap (p.street - q.street) := rfl
 have f3 : j5 p.number q.number = IntKind.i64.wrap (p.number - q.number) := rfl
 have f4 : j5 c1 c2 = IntKind.i64.wrap (c1 - c2) := rfl
 rw [f1, f2, f3, f4] at ss
 clear f1 f2 f3 f4 e
 refine z9 func322 rfl (fun E hE => ?_); simp only [go_sem, ntmps322]
 repeat' (first | (refine Qr rfl ?_; try intro _ hK; try simp only [go_sem, *]) | refine Qh rfl ?_ | refine Qd rfl (by kernel_rfl) ?_ | (refine Qc rfl rfl ?_ ?_ <;> (intro hb; have hc := hb; try simp only [go_sem] at hc)) | refine z8 rfl ?_ | (refine Qb ?_ ?_; focus kernel_rfl) | (refine y6 (sn) ?_; simp only [go_sem, *]) | (refine u0 (s1) ?_ ?_; (focus (simp only [go_sem, *]; done)); simp only [go_sem, *]) | (refine u0 (s2) ?_ ?_; (focus (simp only [go_sem, *]; done)); simp only [go_sem, *]) | ((with_reducible apply And.intro); focus omega) | (refine z7 hK ?_; clear hK; simp only [go_sem, *]) | simp only [z6, z5, go_sem, *])
 (refine U5 [3] (ss) (by simp only [go_sem, *]) (.raw _) ?_; simp only [go_sem, *])
 repeat' (first | (refine Qr rfl ?_; try intro _ hK; try simp only [go_sem, *]) | refine Qh rfl ?_ | refine Qd rfl (by kernel_rfl) ?_ | (refine Qc rfl rfl ?_ ?_ <;> (intro hb; have hc := hb; try simp only [go_sem] at hc)) | refine z8 rfl ?_ | (refine Qb ?_ ?_; focus kernel_rfl) | ((with_reducible apply And.intro); focus omega) | (refine z7 hK ?_; clear hK; simp only [go_sem, *]) | simp only [z6, z5, go_sem, *])
 all_goals (refine ⟨[_], [], [], ⟨rfl, trivial⟩, ?_⟩; simp only [go_sem, *])
theorem zIT : D8 prog 200 (.agg #[]) "wayzgoose/part.compare" := fun w => ⟨by kernel_rfl, fun es => by kernel_rfl⟩
theorem zON (l : List Per) : zBG 200 (l.map Per.enc) l.length (fun a b => o9 (l.getD a default) (l.getD b default)) := fun a b h1 h2 => by
 have sc := zPT (l.getD a default) (l.getD b default)
 have ah := zIT
 show zUL _ _ _ _ (iV (o9 (l.getD a default) (l.getD b default))) _
 generalize o9 (l.getD a default) (l.getD b default) = R at *
 refine z9 func70 rfl (fun E hE => ?_); simp only [go_sem, ntmps70]
 refine we1 sc ?_
 refine ⟨[_], [some 0, some 1], [], ⟨rfl, trivial⟩, ?_⟩
 simp only [go_sem, *]
def zUa (_ : Per) : Bool := true
theorem zQE (l : List Per) (h12 : l.length ≤ 12) : zUL prog 29 [f5 l, zUn 200] [] (.own 0 1 0 (T4 o9 zUa l).length) [.row 1 ((T4 o9 zUa l).map pnV)] := by
 have hfl : ((List.range l.length).filter fun i => zUa (l.getD i default)).length ≤ l.length := by
  have := List.length_filter_le (fun i => zUa (l.getD i default)) (List.range l.length)
  simpa using this
 have ss := zPz 200 (l.map Per.enc) l.length _ (zON l) ((List.range l.length).filter fun i => zUa (l.getD i default)) (by omega) (fun x hx => List.mem_range.1 (List.mem_filter.1 hx).1)
 have hV : a8 (fun a b => o9 (l.getD a default) (l.getD b default)) ((List.range l.length).filter fun i => zUa (l.getD i default)) = T4 o9 zUa l := rfl
 have hVl : (T4 o9 zUa l).length = ((List.range l.length).filter fun i => zUa (l.getD i default)).length := by rw [← hV, zCz]
 rw [hV] at ss
 clear hV
 generalize T4 o9 zUa l = R at *
 have hst := fun p => zHU p
 have hF0 := FiP.zero zUa l
 obtain ⟨xs, hxs⟩ : ∃ xs, xs = (List.range l.length).filter fun i => zUa (l.getD i default) := ⟨_, rfl⟩
 rw [← hxs] at ss hVl hfl
 refine z9 func29 rfl (fun E hE => ?_); simp only [go_sem, ntmps29]
 refine we1 trivial ?_
 refine Q8 rfl (l.length) (fun i (B : List Nat) => FiP zUa l i B) 27 (fun i B => [(10, iV i), (9, iV l.length), (8, f5 l), (2, .ptr 0 0), (3, .ptr 1 0), (5, .own 2 1 0 B.length)]) (fun i B => [.box [f5 l], .box [zUn 200], .row 1 (B.map pnV)]) [some 0, some 1, none] [] (([] : List Nat)) (by exact hF0) ?_; intro i B hi hP
 clear hF0
 rcases Nat.lt_or_ge i l.length with hi2 | hi2
 ·obtain ⟨g1, g2⟩ := hP.go
  have hBi : B.length ≤ i := hP.2
  have sk := hst (l.getD i default)
  have hd1 : decide ((i : Int) < (l.length : Int)) = true := by simp; omega
  have hd2 : decide (i < l.length) = true := by simp; omega
  have hsq : true = zUa (l.getD i default) := rfl
  rw [hsq] at sk
  clear hP hst ss hxs hsq
  generalize zUa (l.getD i default) = bb at *
  repeat' (first | (refine Qr rfl ?_; try intro _ hK; try simp only [go_sem, *]) | refine Qh rfl ?_ | (refine Qc rfl rfl ?_ ?_ <;> (intro hb; have hc := hb; try simp only [go_sem] at hc)) | refine z8 rfl ?_ | (with_reducible (show (∀ _ : AV, _ → _) ∧ _); refine wel ?_) | (refine y6 (sk) ?_; simp only [go_sem, *]) | ((with_reducible apply And.intro); focus omega) | (refine z7 hK ?_; clear hK; simp only [go_sem, *]) | simp only [z6, z5, go_sem, *])
  ·have hn := g1 (by assumption)
   clear g1 g2 sk hd1 hd2
   exact r7 (i' := i + 1) [some 0, some 1, some 5] [] (B ++ [i]) (by exact hn)
  ·have hn := g2 (by assumption)
   clear g1 g2 sk hd1 hd2
   exact r7 (i' := i + 1) [some 0, some 1, some 2] [] (B) (by exact hn)
 ·have he : i = l.length := by omega
  subst he
  have hB : B = xs := by rw [hxs]; exact hP.1
  have hq : ((List.range l.length).filter fun i => zUa (l.getD i default)).length = B.length := by rw [← hxs, hB]
  subst hB
  clear hP hst hxs
  have hd1 : decide ((l.length : Int) < (l.length : Int)) = false := by simp
  have hd2 : decide (l.length < l.length) = false := by simp
  refine we1 (own [2, 1, 0] (ss)) ?_
  refine ⟨[_], [some 2], [], ⟨rfl, trivial⟩, ?_⟩
  simp only [go_sem, Q9, hVl, *]
  all_goals exact hq
end Go.Abs

namespace Go.Abs
open Go Go.Proofs Tryz
attribute [local irreducible] q9 Hold y2
variable [Cur]
theorem zBx (n lo hi : Int) : zUL prog 58 [iV n, iV lo, iV hi] [] (bV (btw n lo hi)) [] := by
 refine z9 func58 rfl (fun E hE => ?_); simp only [go_sem, ntmps58]
 repeat' (first | (refine Qr rfl ?_; try intro _ hK; try simp only [go_sem, *]) | (refine Qi rfl rfl rfl rfl ?_ ?_ <;> (intro hb; (try intro _ hK); have hc := hb; try simp only [go_sem] at hc; simp only [go_sem, *])) | refine Qh rfl ?_ | (refine Qc rfl rfl ?_ ?_ <;> (intro hb; have hc := hb; try simp only [go_sem] at hc)) | refine z8 rfl ?_ | ((with_reducible apply And.intro); focus omega) | (refine z7 hK ?_; clear hK; simp only [go_sem, *]) | simp only [z6, z5, go_sem, *])
 all_goals (refine ⟨[_], [], [], ⟨rfl, trivial⟩, ?_⟩; simp only [go_sem, *])
 all_goals (unfold btw; simp_all)
 all_goals omega
theorem zHV (s : Str) : zUL prog 147 [sV s] [] (bV (o4 s)) [] := by
 have e0 : s.length = 0 → o4 s = false := fun h => by unfold o4; simp [h]
 have e1 : 12 < s.length → o4 s = false := fun h => by unfold o4; simp [h]
 have e2 : s = zDc → o4 s = false := fun h => by unfold o4; simp [h]
 have e3 : s = zDd → o4 s = false := fun h => by unfold o4; simp [h]
 have e4 : ¬ s.length = 0 → ¬ 12 < s.length → ¬ s = zDc → ¬ s = zDd → o4 s = s.all P6 := fun h h' h2 h3 => by unfold o4; simp only [h, h', h2, h3, decide_false, Bool.or_self, Bool.not_false, Bool.true_and]
 generalize o4 s = W at *
 refine z9 func147 rfl (fun E hE => ?_); simp only [go_sem, ntmps147]
 repeat' (first | (refine Qr rfl ?_; try intro _ hK; try simp only [go_sem, *]) | (refine Qi rfl rfl rfl rfl ?_ ?_ <;> (intro hb; (try intro _ hK); have hc := hb; try simp only [go_sem] at hc; simp only [go_sem, *])) | refine Qh rfl ?_ | (refine Qc rfl rfl ?_ ?_ <;> (intro hb; have hc := hb; try simp only [go_sem] at hc)) | refine z8 rfl ?_ | ((with_reducible apply And.intro); focus omega) | (refine z7 hK ?_; clear hK; simp only [go_sem, *]) | simp only [z6, z5, go_sem, *])
 ·(refine ⟨[_], [], [], ⟨rfl, trivial⟩, ?_⟩; simp only [go_sem, *])
 ·have e5 := e4 (by omega) (by omega) (by assumption) (by assumption)
  clear e0 e1 e2 e3 e4
  refine x8 rfl (s.length) (fun i => SmTo s i) 32 (fun i => [(22, .ptr 0 0)]) (fun i => [.siter ⟨s.toArray⟩ i]) [some 0] [] (by exact fun j hj => absurd hj (Nat.not_lt_zero j)) ?_; intro i hi hP
  by_cases hi2 : i < s.length
  ·obtain ⟨r1, r2⟩ := zOM s hi2
   have hbad := zIU hi2
   have hnext := hP.next
   clear hP
   generalize hde : Utf8.decode ⟨s.toArray⟩ i = d at *
   obtain ⟨d1, d2⟩ := d
   simp only at r1 r2
   generalize P6 (s.getD i 0) = kb at *
   rw [← r1] at hbad hnext r2
   clear r1
   repeat' (first | (refine Qr rfl ?_; try intro _ hK; try simp only [go_sem, *]) | (refine Qi rfl rfl rfl rfl ?_ ?_ <;> (intro hb; (try intro _ hK); have hc := hb; try simp only [go_sem] at hc; simp only [go_sem, *])) | refine Qh rfl ?_ | (refine Qc rfl rfl ?_ ?_ <;> (intro hb; have hc := hb; try simp only [go_sem] at hc)) | refine z8 rfl ?_ | ((with_reducible apply And.intro); focus omega) | (refine z7 hK ?_; clear hK; simp only [go_sem, *]) | simp only [z6, z5, go_sem, *])
   all_goals by_cases hs : (97 ≤ (d1 : Int) ∧ (d1 : Int) ≤ 122)
   all_goals first
    | (exfalso; omega)
    | (have hn := hnext hs; have r3 := r2 hs; clear hnext hbad r2; exact y8 (i' := i + 1) [some 0] [] (by exact hn))
    | (have hn := hbad hs; rw [hn] at e5; (refine ⟨[_], [], [], ⟨rfl, trivial⟩, ?_⟩; simp only [go_sem, *]))
  ·have hf := hP.all (by omega)
   rw [hf] at e5
   clear hP
   refine wk1 trivial ?_
   (refine ⟨[_], [], [], ⟨rfl, trivial⟩, ?_⟩; simp only [go_sem, *])
 ·(refine ⟨[_], [], [], ⟨rfl, trivial⟩, ?_⟩; simp only [go_sem, *])
 ·(refine ⟨[_], [], [], ⟨rfl, trivial⟩, ?_⟩; simp only [go_sem, *])
  rw [e1 (by omega)]
 ·(refine ⟨[_], [], [], ⟨rfl, trivial⟩, ?_⟩; simp only [go_sem, *])
  rw [e0 (by omega)]
theorem zPM (n : Str) (u : Int) (y : Cl) : zUL prog 149 [y.enc, .ptr 0 0] [.box [sV n, iV u]] (bV (zUm n y)) [.box [sV n, iV u]] := by
 unfold zUm
 refine z9 func149 rfl (fun E hE => ?_); simp only [go_sem, ntmps149]
 refine wk1 trivial ?_
 refine ⟨[_], [some 0], [], ⟨rfl, trivial⟩, ?_⟩
 simp only [go_sem, *]
theorem zOu (n : Str) (u : Int) (l : List Cl) (hl : l.length ≤ 1000) :
  zUL prog 177 [u1 l, .fn 149 [.ptr 0 0]] [.box [sV n, iV u]] (iV (zUe (zUm n) l 0)) [.box [sV n, iV u]] := by
 have hca : y9 prog 149 = true := by kernel_rfl
 have h0 : zUe (zUm n) (l.drop 0) 0 = zUe (zUm n) l 0 := rfl
 generalize zUe (zUm n) l 0 = T at *
 refine z9 func177 rfl (fun E hE => ?_); simp only [go_sem, ntmps177]
 refine wk1 trivial ?_
 refine x8 rfl (l.length) (fun i => zUe (zUm n) (l.drop i) i = T) 19 (fun i => [(8, iV i), (7, iV l.length), (0, u1 l), (1, .fn 149 [.ptr 0 0])]) (fun i => [.box [sV n, iV u]]) [some 0] [] (by exact h0) ?_; intro i hi hP
 clear h0
 by_cases hi2 : i < l.length
 ·have sc := zPM n u (l.getD i default)
  rw [o5 hi2, zUe] at hP
  generalize hm : (zUm n) (l.getD i default) = b at *
  clear hm
  cases b
  ·have hP : zUe (zUm n) (l.drop (i + 1)) (i + 1) = T := hP
   refine wk1 (own [0] (sc)) ?_
   all_goals first | contradiction | omega | skip
   exact y8 (i' := i + 1) [some 0] [] (by exact hP)
  ·have hP : (i : Int) = T := hP
   subst hP
   refine wk1 (own [0] (sc)) ?_
   all_goals first | contradiction | omega | skip
   refine ⟨[_], [some 0], [], ⟨rfl, trivial⟩, ?_⟩
   simp only [go_sem, *]
 ·rw [Z5 (by omega)] at hP
  have hP : (-1 : Int) = T := hP
  subst hP
  refine wk1 trivial ?_
  all_goals first | contradiction | omega | skip
  refine ⟨[_], [some 0], [], ⟨rfl, trivial⟩, ?_⟩
  simp only [go_sem, *]
theorem zOe (n : Str) (u : Int) (l : List Cl) (hl : l.length ≤ 1000) :
  zUL prog 148 [u1 l, .fn 149 [.ptr 0 0]] [.box [sV n, iV u]] (bV (l.any (zUm n))) [.box [sV n, iV u]] := by
 have si := zOu n u l hl
 rw [← zCt (zUm n) l 0]
 generalize zUe (zUm n) l 0 = n at *
 refine z9 func148 rfl (fun E hE => ?_); simp only [go_sem, ntmps148]
 refine wk1 (own [0] (si)) ?_
 refine ⟨[_], [some 0], [], ⟨rfl, trivial⟩, ?_⟩
 simp only [go_sem, *]
theorem zPR (l : List Cl) (i : Nat) (hi : i < l.length) (hl : l.length ≤ 1000) : zUL prog 121 [u1 l, iV i] [] (iV (X0 l i)) [] := by
 have sw := zHV (l.getD i default).name
 have sc := zOe (l.getD i default).name (l.getD i default).under (l.take i) (by simp; omega)
 have sb := zBx (l.getD i default).under (-1) (l.length - 1)
 have e1 : o4 (l.getD i default).name = false → X0 l i = 2 := fun h => by unfold X0; rw [if_pos h]
 have e2 : o4 (l.getD i default).name = true → (l.take i).any (zUm (l.getD i default).name) = true → X0 l i = 4 := fun h h2 => by unfold X0; rw [if_neg (by rw [h]; decide), if_pos h2]
 have e3 : o4 (l.getD i default).name = true → (l.take i).any (zUm (l.getD i default).name) = false → X0 l i = if btw (l.getD i default).under (-1) (l.length - 1) = false then 3 else if (i : Int) ≤ (l.getD i default).under then 5 else 0 := fun h h2 => by unfold X0; rw [if_neg (by rw [h]; decide), if_neg (by rw [h2]; decide)]
 generalize X0 l i = R at *
 generalize o4 (l.getD i default).name = b1 at *
 generalize (l.take i).any (zUm (l.getD i default).name) = b2 at *
 generalize btw (l.getD i default).under (-1) (l.length - 1) = b3 at *
 have e4 : b1 = true → b2 = false → b3 = false → R = 3 := fun h h2 h3 => by rw [e3 h h2, if_pos h3]
 have e5 : b1 = true → b2 = false → b3 = true → (i : Int) ≤ (l.getD i default).under → R = 5 := fun h h2 h3 h4 => by rw [e3 h h2, if_neg (by rw [h3]; decide), if_pos h4]
 have e6 : b1 = true → b2 = false → b3 = true → ¬ (i : Int) ≤ (l.getD i default).under → R = 0 := fun h h2 h3 h4 => by rw [e3 h h2, if_neg (by rw [h3]; decide), if_neg h4]
 clear e3
 simp only [u1, List.map_take] at sc
 have hwl : IntKind.i64.wrap ((l.length : Int) - 1) = (l.length : Int) - 1 := wrap_i64 (by omega) (by omega)
 refine z9 func121 rfl (fun E hE => ?_); simp only [go_sem, ntmps121]
 repeat' (first | (refine Qr rfl ?_; try intro _ hK; try simp only [go_sem, *]) | refine Qh rfl ?_ | (refine Qc rfl rfl ?_ ?_ <;> (intro hb; have hc := hb; try simp only [go_sem] at hc)) | refine z8 rfl ?_ | (with_reducible (show (∀ _ : AV, _ → _) ∧ _); refine wel ?_) | ((first | refine y6 (sw) ?_ | refine y6 (sb) ?_); simp only [go_sem, *]) | (refine u9 [0] (sc) ?_; simp only [go_sem, *]) | ((with_reducible apply And.intro); focus omega) | (refine z7 hK ?_; clear hK; simp only [go_sem, *]) | simp only [z6, z5, go_sem, *])
 all_goals (refine ⟨[_], [], [], ⟨rfl, trivial⟩, ?_⟩; simp only [go_sem, *])
end Go.Abs

namespace Go.Abs
open Go Go.Proofs Tryz
attribute [local irreducible] q9 Hold y2
variable [Cur]
theorem zPN (w : Str) (c s : Int) (a : List Int) (y : Hd) : zUL prog 151 [y.enc, .ptr 0 0] [.box [sV w, iV c, iV s, .list (a.map iV)]] (bV (zUq w y)) [.box [sV w, iV c, iV s, .list (a.map iV)]] := by
 unfold zUq
 refine z9 func151 rfl (fun E hE => ?_); simp only [go_sem, ntmps151]
 refine wk1 trivial ?_
 refine ⟨[_], [some 0], [], ⟨rfl, trivial⟩, ?_⟩
 simp only [go_sem, *]
theorem zOv (w : Str) (c s : Int) (a : List Int) (l : List Hd) (hl : l.length ≤ 1000) :
  zUL prog 178 [u3 l, .fn 151 [.ptr 0 0]] [.box [sV w, iV c, iV s, .list (a.map iV)]] (iV (zUe (zUq w) l 0)) [.box [sV w, iV c, iV s, .list (a.map iV)]] := by
 have hca : y9 prog 151 = true := by kernel_rfl
 have h0 : zUe (zUq w) (l.drop 0) 0 = zUe (zUq w) l 0 := rfl
 generalize zUe (zUq w) l 0 = T at *
 refine z9 func178 rfl (fun E hE => ?_); simp only [go_sem, ntmps178]
 refine wk1 trivial ?_
 refine x8 rfl (l.length) (fun i => zUe (zUq w) (l.drop i) i = T) 19 (fun i => [(8, iV i), (7, iV l.length), (0, u3 l), (1, .fn 151 [.ptr 0 0])]) (fun i => [.box [sV w, iV c, iV s, .list (a.map iV)]]) [some 0] [] (by exact h0) ?_; intro i hi hP
 clear h0
 by_cases hi2 : i < l.length
 ·have sc := zPN w c s a (l.getD i default)
  rw [o5 hi2, zUe] at hP
  generalize hm : (zUq w) (l.getD i default) = b at *
  clear hm
  cases b
  ·have hP : zUe (zUq w) (l.drop (i + 1)) (i + 1) = T := hP
   refine wk1 (own [0] (sc)) ?_
   all_goals first | contradiction | omega | skip
   exact y8 (i' := i + 1) [some 0] [] (by exact hP)
  ·have hP : (i : Int) = T := hP
   subst hP
   refine wk1 (own [0] (sc)) ?_
   all_goals first | contradiction | omega | skip
   refine ⟨[_], [some 0], [], ⟨rfl, trivial⟩, ?_⟩
   simp only [go_sem, *]
 ·rw [Z5 (by omega)] at hP
  have hP : (-1 : Int) = T := hP
  subst hP
  refine wk1 trivial ?_
  all_goals first | contradiction | omega | skip
  refine ⟨[_], [some 0], [], ⟨rfl, trivial⟩, ?_⟩
  simp only [go_sem, *]
theorem zOf (w : Str) (c s : Int) (a : List Int) (l : List Hd) (hl : l.length ≤ 1000) :
  zUL prog 150 [u3 l, .fn 151 [.ptr 0 0]] [.box [sV w, iV c, iV s, .list (a.map iV)]] (bV (l.any (zUq w))) [.box [sV w, iV c, iV s, .list (a.map iV)]] := by
 have si := zOv w c s a l hl
 rw [← zCt (zUq w) l 0]
 generalize zUe (zUq w) l 0 = n at *
 refine z9 func150 rfl (fun E hE => ?_); simp only [go_sem, ntmps150]
 refine wk1 (own [0] (si)) ?_
 refine ⟨[_], [some 0], [], ⟨rfl, trivial⟩, ?_⟩
 simp only [go_sem, *]
theorem zPS (t : Trd) (i : Nat) (hi : i < t.hds.length) (hl : t.hds.length ≤ 1000) (hc1 : t.cls.length ≤ 1000) (ha : (t.hds.getD i default).also.length ≤ 4294967296) : zUL prog 122 [t.enc, iV i] [] (iV (O7 t i)) [] := by
 have sw := zHV (t.hds.getD i default).word
 have sc := zOf (t.hds.getD i default).word (t.hds.getD i default).cls (t.hds.getD i default).see (t.hds.getD i default).also (t.hds.take i) (by simp; omega)
 have sb := zBx (t.hds.getD i default).cls (-1) (t.cls.length - 1)
 have sb2 := zBx (t.hds.getD i default).see (-1) (t.hds.length - 1)
 have sb3 := fun n => zBx n 0 (t.hds.length - 1)
 simp only [u3, List.map_take] at sc
 obtain ⟨cls, hds⟩ := t
 simp only [Trd.enc] at *
 obtain ⟨R', hR⟩ : ∃ r, r = O7 ⟨cls, hds⟩ i := ⟨_, rfl⟩
 rw [← hR]
 unfold O7 at hR
 simp only at hR
 generalize hx : hds.getD i default = x at *
 obtain ⟨w, c, s, a⟩ := x
 simp only at *
 have hx2 : hds.getD i default = ⟨w, c, s, a⟩ := hx
 clear hx
 obtain ⟨j, hj⟩ : ∃ j : Nat, j = i - 1 := ⟨_, rfl⟩
 rw [← hj] at hR
 obtain ⟨bi, hbi⟩ : ∃ b : Bool, b = decide ((i : Int) > 0) := ⟨_, rfl⟩
 have hi1 : decide ((i : Int) > 0) = bi := hbi.symm
 have hii : (0 < i) = (bi = true) := by rw [hbi]; simp
 have hi6 : decide (0 < i) = bi := by rw [hbi]; simp
 replace hR : R' = if o4 w = false then 2 else if (hds.take i).any (zUq w) = true then 4 else if bi = true ∧ v7 w (hds.getD j default).word = true then 5 else if btw c (-1) (cls.length - 1) = false ∨ btw s (-1) (hds.length - 1) = false then 3 else if s = i then 9
  else if u4 (U3 hds.length i a) a.length 0 ≠ 0 then u4 (U3 hds.length i a) a.length 0 else W7 ⟨w, c, s, a⟩ := by
  rw [hR]
  generalize v7 w (hds.getD j default).word = b3
  have hq : (0 < i ∧ b3 = true) = (bi = true ∧ b3 = true) := by rw [hii]
  by_cases hx : bi = true ∧ b3 = true
  ·have hy : 0 < i ∧ b3 = true := by rw [hq]; exact hx
   rw [if_pos hx, if_pos hy]
  ·have hy : ¬ (0 < i ∧ b3 = true) := by rw [hq]; exact hx
   rw [if_neg hx, if_neg hy]
 have hwj : bi = true → IntKind.i64.wrap ((i : Int) - 1) = (j : Int) := fun h => by rw [← hii] at h; rw [wrap_i64 (by omega) (by omega)]; omega
 have hj2 : bi = true → j < hds.length := fun h => by rw [← hii] at h; omega
 have hwc : IntKind.i64.wrap ((cls.length : Int) - 1) = (cls.length : Int) - 1 := wrap_i64 (by omega) (by omega)
 have hwh : IntKind.i64.wrap ((hds.length : Int) - 1) = (hds.length : Int) - 1 := wrap_i64 (by omega) (by omega)
 clear hbi hj hii
 generalize o4 w = b1 at *
 generalize (hds.take i).any (zUq w) = b2 at *
 generalize btw c (-1) (cls.length - 1) = b4 at *
 generalize btw s (-1) (hds.length - 1) = b5 at *
 generalize hF : u4 (U3 hds.length i a) a.length 0 = F at *
 have hF : u4 (U3 hds.length i a) (a.length - 0) 0 = F := hF
 obtain ⟨H, hH⟩ : ∃ H : Prop, H = (R' = if b1 = false then 2 else if b2 = true then 4 else if bi = true ∧ v7 w (hds.getD j default).word = true then 5 else if b4 = false ∨ b5 = false then 3 else if s = i then 9 else if F ≠ 0 then F else W7 ⟨w, c, s, a⟩) := ⟨_, rfl⟩
 rw [← hH] at hR
 cases bi
 all_goals (refine z9 func122 rfl (fun E hE => ?_); simp only [go_sem, ntmps122])
 all_goals (repeat' (first | (refine Qr rfl ?_; try intro _ hK; try simp only [go_sem, *]) | (refine Qi rfl rfl rfl rfl ?_ ?_ <;> (intro hb; (try intro _ hK); have hc := hb; try simp only [go_sem] at hc; simp only [go_sem, *])) | refine Qh rfl ?_ | refine Qd rfl (by kernel_rfl) ?_ | (refine Qc rfl rfl ?_ ?_ <;> (intro hb; have hc := hb; try simp only [go_sem] at hc)) | refine z8 rfl ?_ | (with_reducible (show (∀ _ : AV, _ → _) ∧ _); refine wel ?_) | (refine Qb ?_ ?_; focus kernel_rfl) | (refine y6 (sw) ?_; simp only [go_sem, *]) | (refine u9 [1] (sc) ?_; simp only [go_sem, *]) | (refine u0 (sb) ?_ ?_; (focus (simp only [go_sem, *]; done)); simp only [go_sem, *]) | (refine u0 (sb2) ?_ ?_; (focus (simp only [go_sem, *]; done)); simp only [go_sem, *]) | ((with_reducible apply And.intro); focus omega) | (refine z7 hK ?_; clear hK; simp only [go_sem, *]) | simp only [z6, z5, go_sem, *]))
 all_goals try (focus ((refine ⟨[_], [], [], ⟨rfl, trivial⟩, ?_⟩; simp only [go_sem, *]); refine I4 ?_; clear sw sc sb sb2 sb3 hwj hj2 hwc hwh hi1 hi6 hx2 hi hl hc1 ha; rw [hH] at hR; clear hH; rw [hR]; clear hR; (repeat' split) <;> simp_all; done))
 all_goals try (focus (exfalso; clear sw sc sb sb2 sb3 hwj hj2 hwc hwh hi1 hi6 hx2 hi hl hc1 ha hH hR; simp_all; done))
 all_goals have h7 : R' = if F ≠ 0 then F else W7 ⟨w, c, s, a⟩ := by clear sw sc sb sb2 sb3 hwj hj2 hwc hwh hi1 hi6 hx2 hi hl hc1 ha; rw [hH] at hR; rw [hR]; clear hR hH; (repeat' split) <;> simp_all
 all_goals clear sw sc sb sb2 hwj hwc hR hH hj2 hi1 hi6
 all_goals (refine x8 rfl (a.length) (fun k => u4 (U3 hds.length i a) (a.length - k) k = F) 125 (fun k => [(65, iV k), (64, iV a.length), (63, .list (a.map iV)), (5, u3 hds), (6, .ptr 0 0), (1, iV i)]) (fun k => [.box [sV w, iV c, iV s, .list (a.map iV)]]) [some 1] [] (by exact hF) ?_; intro k hk hP)
 all_goals clear hF
 all_goals rcases Nat.lt_or_ge k a.length with hk2 | hk2
 rotate_left 1
 ·
  have hk4 : a.length - k = 0 := Nat.sub_eq_zero_of_le hk2
  rw [hk4] at hP
  have hP : (0 : Int) = F := hP
  subst hP
  have h8 : R' = W7 ⟨w, c, s, a⟩ := by rw [h7, if_neg (by simp)]
  clear h7
  have h9 : decide ((k : Int) < (a.length : Int)) = false := by simp; omega
  have h9b : decide (k < a.length) = false := by simp; omega
  repeat' (first | (refine Qr rfl ?_; try intro _ hK; try simp only [go_sem, *]) | (refine Qi rfl rfl rfl rfl ?_ ?_ <;> (intro hb; (try intro _ hK); have hc := hb; try simp only [go_sem] at hc; simp only [go_sem, *])) | refine Qh rfl ?_ | refine Qd rfl (by kernel_rfl) ?_ | (refine Qc rfl rfl ?_ ?_ <;> (intro hb; have hc := hb; try simp only [go_sem] at hc)) | refine z8 rfl ?_ | (with_reducible (show (∀ _ : AV, _ → _) ∧ _); refine wel ?_) | (refine Qb ?_ ?_; focus kernel_rfl) | ((with_reducible apply And.intro); focus omega) | (refine z7 hK ?_; clear hK; simp only [go_sem, *]) | simp only [z6, z5, go_sem, *])
  all_goals first | contradiction | omega | skip
  all_goals ((refine ⟨[_], [], [], ⟨rfl, trivial⟩, ?_⟩; simp only [go_sem, *]))
  all_goals (refine I4 ?_; clear h8; unfold W7; (repeat' split) <;> simp_all <;> omega)
 rotate_left 1
 ·
  have hk4 : a.length - k = 0 := Nat.sub_eq_zero_of_le hk2
  rw [hk4] at hP
  have hP : (0 : Int) = F := hP
  subst hP
  have h8 : R' = W7 ⟨w, c, s, a⟩ := by rw [h7, if_neg (by simp)]
  clear h7
  have h9 : decide ((k : Int) < (a.length : Int)) = false := by simp; omega
  have h9b : decide (k < a.length) = false := by simp; omega
  repeat' (first | (refine Qr rfl ?_; try intro _ hK; try simp only [go_sem, *]) | (refine Qi rfl rfl rfl rfl ?_ ?_ <;> (intro hb; (try intro _ hK); have hc := hb; try simp only [go_sem] at hc; simp only [go_sem, *])) | refine Qh rfl ?_ | refine Qd rfl (by kernel_rfl) ?_ | (refine Qc rfl rfl ?_ ?_ <;> (intro hb; have hc := hb; try simp only [go_sem] at hc)) | refine z8 rfl ?_ | (with_reducible (show (∀ _ : AV, _ → _) ∧ _); refine wel ?_) | (refine Qb ?_ ?_; focus kernel_rfl) | ((with_reducible apply And.intro); focus omega) | (refine z7 hK ?_; clear hK; simp only [go_sem, *]) | simp only [z6, z5, go_sem, *])
  all_goals first | contradiction | omega | skip
  all_goals ((refine ⟨[_], [], [], ⟨rfl, trivial⟩, ?_⟩; simp only [go_sem, *]))
  all_goals (refine I4 ?_; clear h8; unfold W7; (repeat' split) <;> simp_all <;> omega)
 all_goals (
  have hk1 : a.length - k = (a.length - (k + 1)) + 1 := by omega
  rw [hk1] at hP
  have hA : U3 hds.length i a k = if btw (a.getD k 0) 0 (↑hds.length - 1) = false then 3 else if a.getD k 0 = ↑i then 9 else if 0 < k ∧ a.getD k 0 ≤ a.getD (k - 1) 0 then 5 else 0 := rfl
  rw [u4, hA] at hP
  clear hA
  clear hk1
  have sbn := sb3 (a.getD k 0)
  clear sb3
  obtain ⟨kj, hkj⟩ : ∃ j : Nat, j = k - 1 := ⟨_, rfl⟩
  rw [← hkj] at hP
  obtain ⟨bk, hbk⟩ : ∃ b : Bool, b = decide ((k : Int) > 0) := ⟨_, rfl⟩
  have hk5 : decide ((k : Int) > 0) = bk := hbk.symm
  have hki : (0 < k) = (bk = true) := by rw [hbk]; simp
  have hk6 : decide (0 < k) = bk := by rw [hbk]; simp
  have hwk : bk = true → IntKind.i64.wrap ((k : Int) - 1) = (kj : Int) := fun h => by rw [← hki] at h; rw [wrap_i64 (by omega) (by omega)]; omega
  have hkl : bk = true → kj < a.length := fun h => by rw [← hki] at h; omega
  clear hbk hkj
  generalize hG : u4 (U3 hds.length i a) (a.length - (k + 1)) (k + 1) = G at *
  have hG2 : G = F → u4 (U3 hds.length i a) (a.length - (k + 1)) (k + 1) = F := fun h => hG.trans h
  have hkq : (0 < k ∧ a.getD k 0 ≤ a.getD kj 0) = (bk = true ∧ a.getD k 0 ≤ a.getD kj 0) := by rw [hki]
  have hif : (if 0 < k ∧ a.getD k 0 ≤ a.getD kj 0 then (5 : Int) else 0) = if bk = true ∧ a.getD k 0 ≤ a.getD kj 0 then 5 else 0 := by
   by_cases hx : bk = true ∧ a.getD k 0 ≤ a.getD kj 0
   ·rw [if_pos hx, if_pos (by rw [hkq]; exact hx)]
   ·rw [if_neg hx, if_neg (by rw [hkq]; exact hx)]
  rw [hif] at hP
  clear hif hkq hki
  have hP : (if (if btw (a.getD k 0) 0 (↑hds.length - 1) = false then 3 else if a.getD k 0 = ↑i then 9 else if bk = true ∧ a.getD k 0 ≤ a.getD kj 0 then 5 else 0) = (0 : Int) then G else (if btw (a.getD k 0) 0 (↑hds.length - 1) = false then 3 else if a.getD k 0 = ↑i then 9 else if bk = true ∧ a.getD k 0 ≤ a.getD kj 0 then 5 else 0)) = F := by simpa only [hG] using hP
  clear hG
  have hd0 : ∀ q : Nat, a.getD q 0 = a.getD q default := fun q => rfl
  simp only [hd0] at hP sbn
  generalize btw (a.getD k default) 0 (↑hds.length - 1) = b6 at *
  have hL : ∀ n m : Int, n = a.getD k default → m = a.getD kj default → (if (if b6 = false then 3 else if n = ↑i then 9 else if bk = true ∧ n ≤ m then 5 else 0) = (0 : Int) then G else (if b6 = false then 3 else if n = ↑i then 9 else if bk = true ∧ n ≤ m then 5 else 0)) = F := fun n m h1 h2 => by rw [h1, h2]; exact hP
  clear hP hd0
  obtain ⟨n, hn⟩ : ∃ n, n = a.getD k default := ⟨_, rfl⟩
  obtain ⟨m, hm⟩ : ∃ m, m = a.getD kj default := ⟨_, rfl⟩
  have hP := hL n m hn hm
  clear hL
  rw [← hn] at sbn
  have f1 : b6 = false → R' = 3 := fun h => by subst h; rw [if_neg (by simp)] at hP; rw [h7, ← hP]; simp
  have f2 : b6 = true → n = i → R' = 9 := fun h h2 => by subst h h2; rw [if_neg (by simp)] at hP; rw [h7, ← hP]; simp
  have f3 : b6 = true → ¬ n = i → bk = true → n ≤ m → R' = 5 := fun h h2 h3 h4 => by subst h h3; rw [if_neg (by simp [h2, h4])] at hP; rw [h7, ← hP]; simp [h2, h4]
  have f4 : b6 = true → ¬ n = i → (bk = true → ¬ n ≤ m) → u4 (U3 hds.length i a) (a.length - (k + 1)) (k + 1) = F := fun h h2 h3 => hG2 (by subst h; rw [if_pos (by simp [h2]; exact fun q => by have := h3 q; omega)] at hP; exact hP)
  clear hP h7 hG2
  subst hn hm
  have h9 : decide ((k : Int) < (a.length : Int)) = true := by simp; omega
  have h9b : decide (k < a.length) = true := by simp; omega
  (repeat' (first | (refine Qr rfl ?_; try intro _ hK; try simp only [go_sem, *]) | (refine Qi rfl rfl rfl rfl ?_ ?_ <;> (intro hb; (try intro _ hK); have hc := hb; try simp only [go_sem] at hc; simp only [go_sem, *])) | refine Qh rfl ?_ | refine Qd rfl (by kernel_rfl) ?_ | (refine Qc rfl rfl ?_ ?_ <;> (intro hb; have hc := hb; try simp only [go_sem] at hc)) | refine z8 rfl ?_ | (with_reducible (show (∀ _ : AV, _ → _) ∧ _); refine wel ?_) | (refine Qb ?_ ?_; focus kernel_rfl) | (refine y6 (sbn) ?_; simp only [go_sem, *]) | ((with_reducible apply And.intro); focus omega) | (refine z7 hK ?_; clear hK; simp only [go_sem, *]) | simp only [z6, z5, go_sem, *]))
  all_goals first | contradiction | omega | skip
  all_goals try (focus ((refine ⟨[_], [], [], ⟨rfl, trivial⟩, ?_⟩; simp only [go_sem, *]); done))
  all_goals (
   have hnx : bk = true → ¬ a.getD k default ≤ a.getD kj default := fun h => by first | omega | exact Bool.noConfusion (h.symm.trans (show bk = false by assumption))
   have hnf := f4 (by assumption) (by assumption) hnx
   clear f1 f2 f3 f4 hnx hwk hkl hk5 hk6 sbn h9 h9b
   exact y8 (i' := k + 1) [some 0] [] (by exact hnf)))
end Go.Abs

namespace Go.Abs
open Go Go.Proofs Tryz
attribute [local irreducible] q9 Hold y2
variable [Cur]
theorem zFB {f : Nat → Int} {n k : Nat} {F : Int} (hk : k < n) (h : u4 f (n - k) k = F) : (f k ≠ 0 → F = f k) ∧ (f k = 0 → u4 f (n - (k + 1)) (k + 1) = F) := by
 have e : n - k = (n - (k + 1)) + 1 := by omega
 rw [e] at h
 exact ⟨fun q => by rw [← h, zKX q], fun q => by rw [← h, zKW q]⟩
theorem zFA {f : Nat → Int} {n k : Nat} {F : Int} (hk : n ≤ k) (h : u4 f (n - k) k = F) : F = 0 := by
 have e : n - k = 0 := by omega
 rw [e] at h
 exact h.symm
theorem zQH (t : Trd) (h1 : t.cls.length ≤ 4294967296) (h2 : t.hds.length ≤ 4294967296) (ha : ∀ h, h ∈ t.hds → h.also.length ≤ 4294967296) : zUL prog 95 [t.enc] [] (iV (P8 t)) [] := by
 have sc := zPR t.cls
 have sh := zPS t
 obtain ⟨R, hR⟩ : ∃ r, r = P8 t := ⟨_, rfl⟩
 rw [← hR]
 unfold P8 at hR
 obtain ⟨cls, hds⟩ := t
 simp only [Trd.enc] at *
 generalize hF1 : u4 (X0 cls) cls.length 0 = F1 at *
 generalize hF2 : u4 (O7 ⟨cls, hds⟩) hds.length 0 = F2 at *
 by_cases hbig : 6 < cls.length ∨ 6 < hds.length
 ·rw [if_pos hbig] at hR
  clear hF1 hF2 sc sh ha
  refine z9 func95 rfl (fun E hE => ?_); simp only [go_sem, ntmps95]
  repeat' (first | (refine Qr rfl ?_; try intro _ hK; try simp only [go_sem, *]) | (refine Qi rfl rfl rfl rfl ?_ ?_ <;> (intro hb; (try intro _ hK); have hc := hb; try simp only [go_sem] at hc; simp only [go_sem, *])) | refine Qh rfl ?_ | (refine Qc rfl rfl ?_ ?_ <;> (intro hb; have hc := hb; try simp only [go_sem] at hc)) | refine z8 rfl ?_ | (with_reducible (show (∀ _ : AV, _ → _) ∧ _); refine wel ?_) | ((with_reducible apply And.intro); focus omega) | (refine z7 hK ?_; clear hK; simp only [go_sem, *]) | simp only [z6, z5, go_sem, *])
  all_goals first | (exfalso; omega) | skip
  all_goals (refine ⟨[_], [], [], ⟨rfl, trivial⟩, ?_⟩; simp only [go_sem, *])
 ·rw [if_neg hbig] at hR
  have hc6 : cls.length ≤ 6 := by omega
  have hh6 : hds.length ≤ 6 := by omega
  clear hbig h1 h2
  have hF1 : u4 (X0 cls) (cls.length - 0) 0 = F1 := hF1
  have hF2 : u4 (O7 ⟨cls, hds⟩) (hds.length - 0) 0 = F2 := hF2
  have r1 : F1 ≠ 0 → R = F1 := fun h => by rw [hR, if_pos h]
  have r2 : F1 = 0 → R = F2 := fun h => by rw [hR, if_neg (by simp [h])]
  clear hR
  have hT1 : decide ((cls.length : Int) > 6) = false := by simp; omega
  have hT2 : decide ((hds.length : Int) > 6) = false := by simp; omega
  have hT3 : decide (6 < cls.length) = false := by simp; omega
  have hT4 : decide (6 < hds.length) = false := by simp; omega
  refine z9 func95 rfl (fun E hE => ?_); simp only [go_sem, ntmps95]
  refine we1 trivial ?_
  clear hT1 hT2 hT3 hT4
  (refine x8 rfl (cls.length) (fun k => u4 (X0 cls) (cls.length - k) k = F1) 44 (fun k => [(20, iV k), (19, iV cls.length), (1, .ptr 0 0)]) (fun k => [.box [u1 cls, u3 hds]]) [some 0] [] (by exact hF1) ?_; intro k hk hP)
  clear hF1
  rcases Nat.lt_or_ge k cls.length with hk2 | hk2
  ·obtain ⟨g1, g2⟩ := zFB hk2 hP
   have sk := sc k hk2 (by omega)
   clear hP sc sh ha hF2 r2
   generalize X0 cls k = e at *
   have r3 : ¬ e = 0 → R = e := fun h => by rw [r1 (by rw [g1 h]; exact h), g1 h]
   have hd1 : decide ((k : Int) < (cls.length : Int)) = true := by simp; omega
   have hd2 : decide (k < cls.length) = true := by simp; omega
   clear r1 g1
   repeat' (first | (refine Qr rfl ?_; try intro _ hK; try simp only [go_sem, *]) | (refine Qi rfl rfl rfl rfl ?_ ?_ <;> (intro hb; (try intro _ hK); have hc := hb; try simp only [go_sem] at hc; simp only [go_sem, *])) | refine Qh rfl ?_ | (refine Qc rfl rfl ?_ ?_ <;> (intro hb; have hc := hb; try simp only [go_sem] at hc)) | refine z8 rfl ?_ | (with_reducible (show (∀ _ : AV, _ → _) ∧ _); refine wel ?_) | (refine y6 (sk) ?_; simp only [go_sem, *]) | ((with_reducible apply And.intro); focus omega) | (refine z7 hK ?_; clear hK; simp only [go_sem, *]) | simp only [z6, z5, go_sem, *])
   all_goals try (focus ((refine ⟨[_], [], [], ⟨rfl, trivial⟩, ?_⟩; simp only [go_sem, *]); done))
   all_goals (have hn := g2 (by assumption); clear g2 sk r3 hd1 hd2; exact y8 (i' := k + 1) [some 0] [] (by exact hn))
  ·have hz := zFA hk2 hP
   replace r2 := r2 hz
   subst r2
   have hd1 : decide ((k : Int) < (cls.length : Int)) = false := by simp; omega
   have hd2 : decide (k < cls.length) = false := by simp; omega
   clear hP sc r1 hz
   refine we1 trivial ?_
   clear hd1 hd2
   (refine x8 rfl (hds.length) (fun i => u4 (O7 ⟨cls, hds⟩) (hds.length - i) i = R) 44 (fun i => [(34, iV i), (33, iV hds.length), (1, .ptr 0 0)]) (fun i => [.box [u1 cls, u3 hds]]) [some 0] [] (by exact hF2) ?_; intro i hi hQ)
   clear hF2
   rcases Nat.lt_or_ge i hds.length with hi2 | hi2
   ·obtain ⟨g1, g2⟩ := zFB hi2 hQ
    have sk := sh i hi2 (by first | omega | (simp only; omega)) (by first | omega | (simp only; omega)) (ha _ (u5 hi2))
    clear hQ sh ha
    generalize O7 ⟨cls, hds⟩ i = e at *
    have r3 : ¬ e = 0 → R = e := fun h => g1 h
    have hd1 : decide ((i : Int) < (hds.length : Int)) = true := by simp; omega
    have hd2 : decide (i < hds.length) = true := by simp; omega
    clear g1
    repeat' (first | (refine Qr rfl ?_; try intro _ hK; try simp only [go_sem, *]) | (refine Qi rfl rfl rfl rfl ?_ ?_ <;> (intro hb; (try intro _ hK); have hc := hb; try simp only [go_sem] at hc; simp only [go_sem, *])) | refine Qh rfl ?_ | (refine Qc rfl rfl ?_ ?_ <;> (intro hb; have hc := hb; try simp only [go_sem] at hc)) | refine z8 rfl ?_ | (with_reducible (show (∀ _ : AV, _ → _) ∧ _); refine wel ?_) | (refine y6 (sk) ?_; simp only [go_sem, *]) | ((with_reducible apply And.intro); focus omega) | (refine z7 hK ?_; clear hK; simp only [go_sem, *]) | simp only [z6, z5, go_sem, *])
    all_goals try (focus ((refine ⟨[_], [], [], ⟨rfl, trivial⟩, ?_⟩; simp only [go_sem, *]); done))
    all_goals (have hn := g2 (by assumption); clear g2 sk r3 hd1 hd2; exact y8 (i' := i + 1) [some 0] [] (by exact hn))
   ·have hz := zFA hi2 hQ
    have hd1 : decide ((i : Int) < (hds.length : Int)) = false := by simp; omega
    have hd2 : decide (i < hds.length) = false := by simp; omega
    clear hQ sh ha
    subst hz
    refine we1 trivial ?_
    all_goals (refine ⟨[_], [], [], ⟨rfl, trivial⟩, ?_⟩; simp only [go_sem, *])
end Go.Abs

namespace Go.Abs
open Go Go.Proofs Tryz
attribute [local irreducible] q9 Hold y2
variable [Cur]
abbrev u8V (n : Int) : AV := .raw (.int .u8 n)
def or8 (a b : Int) : Int := IntKind.u8.wrap (BitVec.ofInt IntKind.u8.bits a ||| BitVec.ofInt IntKind.u8.bits b).toNat
def zWF (a b : Int) : Int := IntKind.u8.wrap (BitVec.ofInt IntKind.u8.bits a &&& BitVec.ofInt IntKind.u8.bits b).toNat
def zWI (a : Int) (k : Nat) : Int := IntKind.u8.wrap (a * 2 ^ (min k IntKind.u8.bits))
def zWJ (a : Int) (k : Nat) : Int := a.fdiv (2 ^ (min k IntKind.u8.bits))
@[go_sem ↓] theorem zS8 (a b : Int) (K : Cont) : zVI .or .u8 a b K = K (u8V (or8 a b)) [] [] := rfl
@[go_sem ↓] theorem zS7 (a b : Int) (K : Cont) : zVI .and .u8 a b K = K (u8V (zWF a b)) [] [] := rfl
@[go_sem ↓] theorem zT8 (a b : Int) (K : Cont) : N8 .shl .u8 a b K = (0 ≤ b ∧ K (u8V (zWI a b.toNat)) [] []) := rfl
@[go_sem ↓] theorem zUA (a b : Int) (K : Cont) : N8 .shr .u8 a b K = (0 ≤ b ∧ K (u8V (zWJ a b.toNat)) [] []) := rfl
@[go_sem] theorem zSs (H : Nat → AObj) (n : Nat) (t : TypeId) (v : Value) : zUO H (n + 1) (.raw (.iface t v)) = (.raw (.iface t v), []) := rfl
omit [Cur] in
theorem zA9 {t : Trd} (v : P8 t = 0) : t.cls.length ≤ 6 ∧ t.hds.length ≤ 6 := by
 unfold P8 at v
 split at v
 ·simp at v
 ·omega
end Go.Abs

namespace Go.Abs
open Go Go.Proofs Tryz
attribute [local irreducible] q9 Hold y2
variable [Cur]
end Go.Abs

namespace Go.Abs
open Go Go.Proofs Tryz
attribute [local irreducible] q9 Hold y2
variable [Cur]
end Go.Abs

namespace Go.Abs
open Go Go.Proofs Tryz
attribute [local irreducible] q9 Hold y2
variable [Cur]
def N3 (v : Vol) (p : Per) : Int :=
 if v5 p.name ≠ 0 then v5 p.name else if btw p.street 0 (v.streets - 1) = false then 3 else if btw p.number 1 40 = false then 1 else if btw p.head (-1) (v.tr.hds.length - 1) = false then 3
 else if 0 ≤ p.head ∧ (v.tr.hds.getD p.head.toNat default).cls = -1 then 8 else 0
theorem zP1 (v : Vol) (p : Per) (hs : 1 ≤ v.streets ∧ v.streets ≤ 3) (hh : v.tr.hds.length ≤ 1000) : zUL prog 91 [v.enc, p.enc] [] (iV (N3 v p)) [] := by
 have sc := zDg p.name
 have s1 := H7 p.street 0 (v.streets - 1)
 have s2 := H7 p.number 1 40
 have s3 := H7 p.head (-1) (v.tr.hds.length - 1)
 obtain ⟨R, hR⟩ : ∃ r, r = N3 v p := ⟨_, rfl⟩
 rw [← hR]
 unfold N3 at hR
 obtain ⟨st, wd, rw1, ⟨cls, hds⟩, rules, people⟩ := v
 obtain ⟨nm, ps, pn, ph, pb⟩ := p
 simp only [Vol.enc, Per.enc] at *
 have hws : IntKind.i64.wrap (st - 1) = st - 1 := wrap_i64 (by omega) (by omega)
 have hwh : IntKind.i64.wrap ((hds.length : Int) - 1) = (hds.length : Int) - 1 := wrap_i64 (by omega) (by omega)
 have hb3 : btw ph (-1) (hds.length - 1) = true → -1 ≤ ph ∧ ph ≤ hds.length - 1 := fun h => by unfold btw at h; simp at h; omega
 generalize v5 nm = c0 at *
 generalize btw ps 0 (st - 1) = b1 at *
 generalize btw pn 1 40 = b2 at *
 generalize btw ph (-1) (hds.length - 1) = b3 at *
 have e0 : ¬ c0 = 0 → R = c0 := fun h => by rw [hR, if_pos h]
 have e1 : c0 = 0 → b1 = false → R = 3 := fun h h1 => by rw [hR, if_neg (by simp [h]), if_pos h1]
 have e2 : c0 = 0 → b1 = true → b2 = false → R = 1 := fun h h1 h2 => by rw [hR, if_neg (by simp [h]), if_neg (by simp [h1]), if_pos h2]
 have e3 : c0 = 0 → b1 = true → b2 = true → b3 = false → R = 3 := fun h h1 h2 h3 => by rw [hR, if_neg (by simp [h]), if_neg (by simp [h1]), if_neg (by simp [h2]), if_pos h3]
 have e4 : c0 = 0 → b1 = true → b2 = true → b3 = true → R = if 0 ≤ ph ∧ (hds.getD ph.toNat default).cls = -1 then 8 else 0 := fun h h1 h2 h3 => by rw [hR, if_neg (by simp [h]), if_neg (by simp [h1]), if_neg (by simp [h2]), if_neg (by simp [h3])]
 clear hR
 by_cases hp : 0 ≤ ph
 ·have hd1 : decide (ph ≥ 0) = true := by simp; omega
  have hd2 : decide (0 ≤ ph) = true := by simp; omega
  by_cases hbt : b3 = true
  ·have hq := hb3 hbt
   have hq1 : ph.toNat < hds.length := by omega
   have hq2 : ph < hds.length := by omega
   have e5 : c0 = 0 → b1 = true → b2 = true → (hds.getD ph.toNat default).cls = -1 → R = 8 := fun h h1 h2 h3 => by rw [e4 h h1 h2 hbt, if_pos ⟨hp, h3⟩]
   have e6 : c0 = 0 → b1 = true → b2 = true → ¬ (hds.getD ph.toNat default).cls = -1 → R = 0 := fun h h1 h2 h3 => by rw [e4 h h1 h2 hbt, if_neg (fun q => h3 q.2)]
   clear e3 e4 hb3
   subst hbt
   refine z9 func91 rfl (fun E hE => ?_); simp only [go_sem, ntmps91]
   repeat' (first | (refine Qr rfl ?_; try intro _ hK; try simp only [go_sem, *]) | (refine Qi rfl rfl rfl rfl ?_ ?_ <;> (intro hb; (try intro _ hK); have hc := hb; try simp only [go_sem] at hc; simp only [go_sem, *])) | refine Qh rfl ?_ | (refine Qc rfl rfl ?_ ?_ <;> (intro hb; have hc := hb; try simp only [go_sem] at hc)) | refine z8 rfl ?_ | (with_reducible (show (∀ _ : AV, _ → _) ∧ _); refine wel ?_) | (refine y6 (sc) ?_; simp only [go_sem, *]) | (refine u0 (s1) ?_ ?_; (focus (simp only [go_sem, *]; done)); simp only [go_sem, *]) | (refine u0 (s2) ?_ ?_; (focus (simp only [go_sem, *]; done)); simp only [go_sem, *]) | (refine u0 (s3) ?_ ?_; (focus (simp only [go_sem, *]; done)); simp only [go_sem, *]) | ((with_reducible apply And.intro); focus omega) | (refine z7 hK ?_; clear hK; simp only [go_sem, *]) | simp only [z6, z5, go_sem, *])
   all_goals try (focus ((refine ⟨[_], [], [], ⟨rfl, trivial⟩, ?_⟩; simp only [go_sem, *]); done))
  ·have hbf : b3 = false := by simpa using hbt
   clear e4 hb3 hbt
   subst hbf
   refine z9 func91 rfl (fun E hE => ?_); simp only [go_sem, ntmps91]
   repeat' (first | (refine Qr rfl ?_; try intro _ hK; try simp only [go_sem, *]) | (refine Qi rfl rfl rfl rfl ?_ ?_ <;> (intro hb; (try intro _ hK); have hc := hb; try simp only [go_sem] at hc; simp only [go_sem, *])) | refine Qh rfl ?_ | (refine Qc rfl rfl ?_ ?_ <;> (intro hb; have hc := hb; try simp only [go_sem] at hc)) | refine z8 rfl ?_ | (with_reducible (show (∀ _ : AV, _ → _) ∧ _); refine wel ?_) | (refine y6 (sc) ?_; simp only [go_sem, *]) | (refine u0 (s1) ?_ ?_; (focus (simp only [go_sem, *]; done)); simp only [go_sem, *]) | (refine u0 (s2) ?_ ?_; (focus (simp only [go_sem, *]; done)); simp only [go_sem, *]) | (refine u0 (s3) ?_ ?_; (focus (simp only [go_sem, *]; done)); simp only [go_sem, *]) | ((with_reducible apply And.intro); focus omega) | (refine z7 hK ?_; clear hK; simp only [go_sem, *]) | simp only [z6, z5, go_sem, *])
   all_goals try (focus ((refine ⟨[_], [], [], ⟨rfl, trivial⟩, ?_⟩; simp only [go_sem, *]); done))
 ·have hd1 : decide (ph ≥ 0) = false := by simp; omega
  have hd2 : decide (0 ≤ ph) = false := by simp; omega
  have e5 : c0 = 0 → b1 = true → b2 = true → b3 = true → R = 0 := fun h h1 h2 h3 => by rw [e4 h h1 h2 h3, if_neg (fun q => hp q.1)]
  clear e4 hb3
  refine z9 func91 rfl (fun E hE => ?_); simp only [go_sem, ntmps91]
  repeat' (first | (refine Qr rfl ?_; try intro _ hK; try simp only [go_sem, *]) | (refine Qi rfl rfl rfl rfl ?_ ?_ <;> (intro hb; (try intro _ hK); have hc := hb; try simp only [go_sem] at hc; simp only [go_sem, *])) | refine Qh rfl ?_ | (refine Qc rfl rfl ?_ ?_ <;> (intro hb; have hc := hb; try simp only [go_sem] at hc)) | refine z8 rfl ?_ | (with_reducible (show (∀ _ : AV, _ → _) ∧ _); refine wel ?_) | (refine y6 (sc) ?_; simp only [go_sem, *]) | (refine u0 (s1) ?_ ?_; (focus (simp only [go_sem, *]; done)); simp only [go_sem, *]) | (refine u0 (s2) ?_ ?_; (focus (simp only [go_sem, *]; done)); simp only [go_sem, *]) | (refine u0 (s3) ?_ ?_; (focus (simp only [go_sem, *]; done)); simp only [go_sem, *]) | ((with_reducible apply And.intro); focus omega) | (refine z7 hK ?_; clear hK; simp only [go_sem, *]) | simp only [z6, z5, go_sem, *])
  all_goals try (focus ((refine ⟨[_], [], [], ⟨rfl, trivial⟩, ?_⟩; simp only [go_sem, *]); done))
end Go.Abs

namespace Go.Abs
open Go Go.Proofs Tryz
attribute [local irreducible] q9 Hold y2
variable [Cur]
structure VolOK (v : Vol) : Prop where
 st : 1 ≤ v.streets ∧ v.streets ≤ 3
 wd : 1 ≤ v.width ∧ v.width ≤ 13
 rw : 3 ≤ v.rows ∧ v.rows ≤ 8
 tr : P8 v.tr = 0
 also : ∀ h, h ∈ v.tr.hds → h.also.length ≤ 4294967296
 rl : v.rules.length ≤ 4294967296
 rs : ∀ x, x ∈ v.rules → x.src.length ≤ 4294967296 ∧ x.dst.length ≤ 4294967296
 ve : zBA v.rules [97] [97] = 0
 pl : v.people.length ≤ 6
 pe : ∀ p, p ∈ v.people → N3 v p = 0
theorem zQG (t : Trd) (v : P8 t = 0) (ha : ∀ h, h ∈ t.hds → h.also.length ≤ 4294967296) : zUL prog 89 [t.enc] [] (iV 0) [] := by
 have sc := zQH t (by have := zA9 v; omega) (by have := zA9 v; omega) ha
 rw [v] at sc
 obtain ⟨cls, hds⟩ := t
 clear v ha
 refine z9 func89 rfl (fun E hE => ?_); simp only [go_sem, ntmps89]
 refine wk1 sc ?_
 all_goals (refine ⟨[_], [], [], ⟨rfl, trivial⟩, ?_⟩; simp only [go_sem, *])
theorem zP0 (v : Vol) (ok : VolOK v) : zUL prog 51 [v.enc] [] (.tup [.ptr 0 0, iV 0])
  [.box [iV v.streets, iV v.width, iV v.rows, u1 v.tr.cls, u3 v.tr.hds, x4 v.rules, f5 v.people, .own 1 1 0 v.people.length], .row 1 (v.people.map fun p => sV p.name)] := by
 have s1 := H7 v.streets 1 3
 have s2 := H7 v.width 1 13
 have s3 := H7 v.rows 3 8
 have b1 : btw v.streets 1 3 = true := by have := ok.st; unfold btw; simp; omega
 have b2 : btw v.width 1 13 = true := by have := ok.wd; unfold btw; simp; omega
 have b3 : btw v.rows 3 8 = true := by have := ok.rw; unfold btw; simp; omega
 rw [b1] at s1
 rw [b2] at s2
 rw [b3] at s3
 clear b1 b2 b3
 have sc := zQG v.tr ok.tr ok.also
 have sv := zO9 v.rules [97] [97] ok.rl ok.rs
 rw [ok.ve] at sv
 have sp : ∀ p, p ∈ v.people → zUL prog 91 [v.enc, p.enc] [] (iV 0) [] := fun p hp => by
  have := zP1 v p ok.st (by have := zA9 ok.tr; omega)
  rw [ok.pe p hp] at this
  exact this
 have hp6 := ok.pl
 clear ok
 generalize zD5 v.rules [97] [97] = vv at *
 obtain ⟨st, wd, rw1, ⟨cls, hds⟩, rules, people⟩ := v
 simp only [Vol.enc, Trd.enc] at *
 have hpq : decide ((people.length : Int) > 6) = false := by simp; omega
 have hpr : decide (6 < people.length) = false := by simp; omega
 refine z9 func51 rfl (fun E hE => ?_); simp only [go_sem, ntmps51]
 refine we1 (cc s1 (cc s2 (cc s3 (cc sc sv)))) ?_
 clear s1 s2 s3 sc sv hpq hpr
 refine x8 rfl (people.length) (fun i => NoS i) 75 (fun i => [(52, iV i), (51, iV people.length), (50, f5 people), (1, .ptr 0 0), (7, .ptr 1 0)]) (fun i => [.box [iV st, iV wd, iV rw1, u1 cls, u3 hds, x4 rules, f5 people], .box [iV st, iV wd, iV rw1, u1 cls, u3 hds, x4 rules, f5 people, .own 2 1 0 i], .row 1 ((people.take i).map fun p => sV p.name)]) [some 0, some 1, none] [] (by trivial) ?_; intro i hi hP
 rcases Nat.lt_or_ge i people.length with hi2 | hi2
 ·have sk := sp _ (u5 hi2)
  have hd1 : decide ((i : Int) < (people.length : Int)) = true := by simp; omega
  have hd2 : decide (i < people.length) = true := by simp; omega
  have hnx : (people.take (i + 1)).map (fun p => sV p.name) = (people.take i).map (fun p => sV p.name) ++ [sV (people.getD i default).name] := by
   rw [List.take_succ_eq_append_getElem hi2, List.map_append]
   simp [List.getD, hi2]
  clear sp
  refine we1 sk ?_
  clear hd1 hd2 sk
  exact y8 (i' := i + 1) [some 0, some 1, some 5] [] (by trivial)
 ·have he : i = people.length := by omega
  subst he
  have hd1 : decide ((people.length : Int) < (people.length : Int)) = false := by simp
  have hd2 : decide (people.length < people.length) = false := by simp
  simp only [List.take_length]
  clear sp
  refine we1 trivial ?_
  refine ⟨[_, _], [some 1, some 2], [], ⟨rfl, rfl, trivial⟩, ?_⟩
  simp only [go_sem, *]
end Go.Abs

namespace Go.Abs
open Go Go.Proofs Tryz
attribute [local irreducible] q9 Hold y2
variable [Cur]
theorem zQA : zUL prog 68 [] [] (.agg [zUn 199, zUn 200, zUn 185]) [] := by
 refine z9 func68 rfl (fun E hE => ?_); simp only [go_sem, ntmps68]
 refine wk1 trivial ?_
 refine ⟨[.agg [zUn 199, zUn 200, zUn 185]], [], [], ⟨?_, trivial⟩, ?_⟩
 ·simp only [W0, go_sem]
 ·simp only [go_sem, *]
abbrev zUY (v : Vol) : AObj := .box [iV v.streets, iV v.width, iV v.rows, u1 v.tr.cls, u3 v.tr.hds, x4 v.rules, f5 v.people, .list (v.people.map fun p => sV p.name)]
theorem zHK (v : Vol) (ok : VolOK v) : zUL prog 28 [v.enc, iV 1] [] (.tup [.ptr 0 0, zUn 200, iV 0]) [zUY v] := by
 have sb := zP0 v ok
 have s1 := H7 1 0 2
 have b1 : btw 1 0 2 = true := by decide
 rw [b1] at s1
 have ss := zQA
 clear b1 ok
 obtain ⟨st, wd, rw1, ⟨cls, hds⟩, rules, people⟩ := v
 simp only [Vol.enc, Trd.enc, zUY] at *
 refine z9 func28 rfl (fun E hE => ?_); simp only [go_sem, ntmps28]
 refine we1 (cc sb (cc s1 ss)) ?_
 refine ⟨[_, _, _], [some 1], [2], ⟨rfl, rfl, rfl, trivial⟩, ?_⟩
 simp only [go_sem, *]
theorem zHJ (v : Vol) (ok : VolOK v) : zUL prog 7 [v.enc, iV 1] [] (.tup [.own 0 1 0 (T4 o9 zUa v.people).length, iV 0]) [.row 1 ((T4 o9 zUa v.people).map pnV)] := by
 have sb := zHK v ok
 have so := zQE v.people (by have := ok.pl; omega)
 clear ok
 generalize T4 o9 zUa v.people = R at *
 obtain ⟨st, wd, rw1, ⟨cls, hds⟩, rules, people⟩ := v
 simp only [Vol.enc, Trd.enc, zUY] at *
 refine z9 func7 rfl (fun E hE => ?_); simp only [go_sem, ntmps7]
 refine we1 (cc sb so) ?_
 refine ⟨[_, _], [some 2], [], ⟨rfl, rfl, trivial⟩, ?_⟩
 simp only [go_sem, *]
end Go.Abs

namespace Go.Abs
open Go Go.Proofs Tryz
attribute [local irreducible] q9 Hold y2
variable [Cur]
theorem zQD (n : Nat) (hn : n < 100) : zUL prog 300 [iV n] [] (sV (zU6 n)) [] := by
 have w1 : IntKind.i64.wrap ((n : Int) + 1) = ((n + 1 : Nat) : Int) := u6 (by omega)
 have w2 : IntKind.i64.wrap ((n : Int) * 2) = ((n * 2 : Nat) : Int) := by rw [wrap_i64 (by omega) (by omega)]; omega
 have w3 : IntKind.i64.wrap (((n * 2 : Nat) : Int) + 2) = ((n * 2 + 2 : Nat) : Int) := by rw [wrap_i64 (by omega) (by omega)]; omega
 refine z9 func300 rfl (fun E hE => ?_); simp only [go_sem, ntmps300]
 repeat' (first | (refine Qr rfl ?_; try intro _ hK; try simp only [go_sem, *]) | refine Qh rfl ?_ | (refine Qc rfl rfl ?_ ?_ <;> (intro hb; have hc := hb; try simp only [go_sem] at hc)) | refine z8 rfl ?_ | ((with_reducible apply And.intro); focus omega) | (refine z7 hK ?_; clear hK; simp only [go_sem, *]) | simp only [z6, z5, go_sem, *])
 ·refine ⟨[_], [], [], ⟨rfl, trivial⟩, ?_⟩
  simp only [go_sem, *]
  refine congrArg (fun l : Str => Value.string ⟨l.toArray⟩) ?_
  clear w1 w2 w3 hb
  revert n
  refine of_decide_eq_true ?_
  kernel_rfl
 ·refine ⟨⟨by omega, by simp; omega⟩, ?_⟩
  repeat' (first | (refine Qr rfl ?_; try intro _ hK; try simp only [go_sem, *]) | refine Qh rfl ?_ | (refine Qc rfl rfl ?_ ?_ <;> (intro hb; have hc := hb; try simp only [go_sem] at hc)) | refine z8 rfl ?_ | ((with_reducible apply And.intro); focus omega) | (refine z7 hK ?_; clear hK; simp only [go_sem, *]) | simp only [z6, z5, go_sem, *])
  refine ⟨[_], [], [], ⟨rfl, trivial⟩, ?_⟩
  simp only [go_sem, *]
  refine congrArg (fun l : Str => Value.string ⟨l.toArray⟩) ?_
  clear w1 w2 w3 hb
  revert n
  refine of_decide_eq_true ?_
  kernel_rfl
theorem zHG (n : Nat) (hn : n < 100) : zUL prog 297 [iV n] [] (sV (zU6 n)) [] := by
 have s1 := zQD n hn
 generalize zU6 n = t at *
 have s2 : zUL prog 299 [iV n, iV 10] [] (sV t) [] := by
  refine z9 func299 rfl (fun E hE => ?_); simp only [go_sem, ntmps299]
  repeat' (first | (refine Qr rfl ?_; try intro _ hK; try simp only [go_sem, *]) | (refine Qi rfl rfl rfl rfl ?_ ?_ <;> (intro hb; (try intro _ hK); have hc := hb; try simp only [go_sem] at hc; simp only [go_sem, *])) | refine Qh rfl ?_ | (refine Qc rfl rfl ?_ ?_ <;> (intro hb; have hc := hb; try simp only [go_sem] at hc)) | refine z8 rfl ?_ | (refine y6 (s1) ?_; simp only [go_sem, *]) | ((with_reducible apply And.intro); focus omega) | (refine z7 hK ?_; clear hK; simp only [go_sem, *]) | simp only [z6, z5, go_sem, *])
  all_goals first | contradiction | omega | skip
  (refine ⟨[_], [], [], ⟨rfl, trivial⟩, ?_⟩; simp only [go_sem, *])
 have s3 : zUL prog 298 [iV n] [] (sV t) [] := by
  refine z9 func298 rfl (fun E hE => ?_); simp only [go_sem, ntmps298]
  refine wk1 s2 ?_
  (refine ⟨[_], [], [], ⟨rfl, trivial⟩, ?_⟩; simp only [go_sem, *])
 refine z9 func297 rfl (fun E hE => ?_); simp only [go_sem, ntmps297]
 refine wk1 s3 ?_
 (refine ⟨[_], [], [], ⟨rfl, trivial⟩, ?_⟩; simp only [go_sem, *])
def zVS (p : Per) (nm : Str) : Str := nm ++ [32] ++ zU6 p.street ++ [32] ++ zU6 p.number
theorem zP3 (p : Per) (nm : Str) (h1 : 0 ≤ p.street ∧ p.street < 100) (h2 : 0 ≤ p.number ∧ p.number < 100) (hn : nm.length ≤ 1000) : zUL prog 296 [p.enc, sV nm] [] (sV (zVS p nm)) [] := by
 obtain ⟨pn, ps, pu, ph, pb⟩ := p
 simp only [zVS, Per.enc] at *
 obtain ⟨s, rfl⟩ : ∃ s : Nat, ps = s := ⟨ps.toNat, by omega⟩
 obtain ⟨u, rfl⟩ : ∃ s : Nat, pu = s := ⟨pu.toNat, by omega⟩
 have s1 := zHG s (by omega)
 have s2 := zHG u (by omega)
 have l1 := zBi (s : Int)
 have l2 := zBi (u : Int)
 generalize zU6 (s : Int) = a at *
 generalize zU6 (u : Int) = b at *
 refine z9 func296 rfl (fun E hE => ?_); simp only [go_sem, ntmps296]
 refine wk1 (cc s1 s2) ?_
 refine ⟨[_], [], [], ⟨rfl, trivial⟩, ?_⟩
 simp only [go_sem, *]
theorem zP8 (p : Per) (nm : Str) (h1 : 0 ≤ p.street ∧ p.street < 100) (h2 : 0 ≤ p.number ∧ p.number < 100) (hn : nm.length ≤ 1000) : zUL prog 324 [.agg [], p.enc, sV nm] [] (sV (zVS p nm)) [] := by
 have sp := zP3 p nm h1 h2 hn
 generalize zVS p nm = r at *
 refine z9 func324 rfl (fun E hE => ?_); simp only [go_sem, ntmps324]
 refine wk1 sp ?_
 refine ⟨[_], [], [], ⟨rfl, trivial⟩, ?_⟩
 simp only [go_sem, *]
theorem zGP (l : List Per) : (l.map Per.name).map sV = l.map fun p => sV p.name := by rw [List.map_map]; rfl
theorem zPe (v : Vol) (i w : Int) (hl : v.people.length ≤ 6) (q : X2 (v.people.map Per.name) i w = 0) : zUL prog 80 [.ptr 0 0, iV i, iV w] [zUY v] (sV (zUk (v.people.map Per.name) i w)) [zUY v] := by
 have sf := zDj (v.people.map Per.name) i w (by simp; omega)
 rw [q] at sf
 clear q
 simp only [zUY]
 generalize zUk (v.people.map Per.name) i w = s at *
 unfold y4 at sf
 rw [zGP] at sf
 refine z9 func80 rfl (fun E hE => ?_); simp only [go_sem, ntmps80]
 refine wk1 sf ?_
 refine ⟨[_], [some 0], [], ⟨rfl, trivial⟩, ?_⟩
 simp only [go_sem, *]
end Go.Abs

namespace Go.Abs
open Go Go.Proofs Tryz
attribute [local irreducible] q9 Hold y2
variable [Cur]
abbrev V0 : Value := .iface 34 (.int .i64 11)
theorem zPd (v : Vol) (i w : Int) (hl : v.people.length ≤ 6) (q : X2 (v.people.map Per.name) i w = 11) : G7 prog 80 V0 [.ptr 0 0, iV i, iV w] [zUY v] [zUY v] := by
 have sf := zDj (v.people.map Per.name) i w (by simp; omega)
 rw [q] at sf
 clear q
 simp only [zUY]
 generalize zUk (v.people.map Per.name) i w = s at *
 unfold y4 at sf
 rw [zGP] at sf
 refine zDo func80 rfl (fun E hE => ?_)
 simp only [go_sem, ntmps80]
 repeat' (first | ((with_reducible refine M0 [0, 1, 0, 1, 1] ?_)) | (refine Qr rfl ?_; try intro _ hK; try simp only [go_sem, *]) | (refine Qi rfl rfl rfl rfl ?_ ?_ <;> (intro hb; (try intro _ hK); have hc := hb; try simp only [go_sem] at hc; simp only [go_sem, *])) | refine Qh rfl ?_ | refine Qd rfl (by kernel_rfl) ?_ | (refine Qc rfl rfl ?_ ?_ <;> (intro hb; have hc := hb; try simp only [go_sem] at hc)) | refine z8 rfl ?_ | (refine Qb ?_ ?_; focus kernel_rfl) | (refine y6 (sf) ?_; simp only [go_sem, *]) | ((with_reducible apply And.intro); focus omega) | (refine z7 hK ?_; clear hK; simp only [go_sem, *]) | simp only [z6, z5, go_sem, *])
 all_goals try contradiction
 refine ⟨?_⟩
 refine zN9 2 rfl rfl rfl rfl (t := 34) (v := .int .i64 11) ?_
 simp only [List.take_succ_cons, List.take_zero, List.drop_succ_cons, List.drop_zero]
 repeat' (first | (refine Qr (ops := _ :: _) rfl ?_; try intro _ hK; try simp only [go_sem, *]) | (refine Qi rfl rfl rfl rfl ?_ ?_ <;> (intro hb; (try intro _ hK); have hc := hb; try simp only [go_sem] at hc; simp only [go_sem, *])) | (refine Qb ?_ ?_; focus kernel_rfl) | ((with_reducible apply And.intro); focus omega) | (refine z7 hK ?_; clear hK; simp only [go_sem, *]) | simp only [z6, z5, go_sem, *])
 refine w7 ?_
 simp only [go_sem]
 refine ⟨[some 0], [], ?_⟩
 simp only [go_sem, *]
def zAL (v : Vol) (i : Nat) : List Str := zVS (v.people.getD i default) (zUk (v.people.map Per.name) i v.width) :: if (v.people.getD i default).bold = true then [[42]] else []
theorem zPY (v : Vol) (i : Nat) (hi : i < v.people.length) (hl : v.people.length ≤ 6) (h1 : 0 ≤ (v.people.getD i default).street ∧ (v.people.getD i default).street < 100) (h2 : 0 ≤ (v.people.getD i default).number ∧ (v.people.getD i default).number < 100)
  (hn : (zUk (v.people.map Per.name) i v.width).length ≤ 1000) (q : X2 (v.people.map Per.name) i v.width = 0) :
  zUL prog 41 [.ptr 0 0, zUn 200, iV i] [zUY v] (y4 (zAL v i)) [zUY v] := by
 have sf := zPe v i v.width hl q
 have sr := zP8 (v.people.getD i default) _ h1 h2 hn
 have ah : D8 prog 200 (.agg #[]) "wayzgoose/part.row" := fun w => ⟨by kernel_rfl, fun es => by kernel_rfl⟩
 clear q hn h1 h2
 unfold zAL
 generalize zUk (v.people.map Per.name) i v.width = s at *
 generalize zVS (v.people.getD i default) s = r at *
 simp only [zUY] at *
 obtain ⟨st, wd, rw1, ⟨cls, hds⟩, rules, people⟩ := v
 dsimp only at *
 generalize hp : people.getD i default = p at *
 obtain ⟨pn, ps, pu, ph, pb⟩ := p
 cases pb
 ·rw [if_neg (by simp)]
  refine z9 func41 rfl (fun E hE => ?_); simp only [go_sem, ntmps41]
  refine we1 (cc (own [0] (sf)) sr) ?_
  refine ⟨[_], [some 0], [2], ⟨rfl, trivial⟩, ?_⟩
  simp only [go_sem, *]
 ·rw [if_pos rfl]
  refine z9 func41 rfl (fun E hE => ?_); simp only [go_sem, ntmps41]
  refine we1 (cc (own [0] (sf)) sr) ?_
  refine ⟨[_], [some 0], [4], ⟨rfl, trivial⟩, ?_⟩
  simp only [go_sem, *]
theorem zPZ (v : Vol) (i : Nat) (hi : i < v.people.length) (hl : v.people.length ≤ 6) (q : X2 (v.people.map Per.name) i v.width = 11) :
  G7 prog 41 V0 [.ptr 0 0, zUn 200, iV i] [zUY v] [zUY v] := by
 have sf := zPd v i v.width hl q
 have ah : D8 prog 200 (.agg #[]) "wayzgoose/part.row" := fun w => ⟨by kernel_rfl, fun es => by kernel_rfl⟩
 have hcf : y9 prog 80 = true := by kernel_rfl
 clear q
 simp only [zUY] at *
 obtain ⟨st, wd, rw1, ⟨cls, hds⟩, rules, people⟩ := v
 dsimp only at *
 generalize hp : people.getD i default = p at *
 obtain ⟨pn, ps, pu, ph, pb⟩ := p
 refine zDo func41 rfl (fun E hE => ?_)
 simp only [go_sem, ntmps41]
 repeat' (first | ((with_reducible refine M0 [0, 1, 1] ?_)) | (refine Qr rfl ?_; try intro _ hK; try simp only [go_sem, *]) | (refine Qi rfl rfl rfl rfl ?_ ?_ <;> (intro hb; (try intro _ hK); have hc := hb; try simp only [go_sem] at hc; simp only [go_sem, *])) | refine Qh rfl ?_ | refine Qd rfl (by kernel_rfl) ?_ | (refine Qc rfl rfl ?_ ?_ <;> (intro hb; have hc := hb; try simp only [go_sem] at hc)) | refine z8 rfl ?_ | (with_reducible (show (∀ _ : AV, _ → _) ∧ _); refine wel ?_) | (refine Qb ?_ ?_; focus kernel_rfl) | ((with_reducible apply And.intro); focus omega) | (refine z7 hK ?_; clear hK; simp only [go_sem, *]) | simp only [z6, z5, go_sem, *])
 refine ⟨?_⟩
 refine zN8 (v := V0) 9 [true, true, true, true, true, true, true, true, true, false, true, true, true, false, false, false] [17, 18, 19, 20, 21, 22, 23, 24, 25, 27, 28, 29]
  [(17, zUn 200), (18, .agg [sV pn, iV ps, iV pu, iV ph, bV pb]), (19, .ptr 0 0), (20, iV i), (21, .ptr 0 0), (22, .ptr 0 0), (23, .ptr 0 0), (24, .ptr 0 1), (25, iV wd), (27, .raw (.func (.method "wayzgoose/part.row") #[.iface 200 (.agg #[])] #[])), (28, .raw (.func (.method "wayzgoose/part.row") #[.iface 200 (.agg #[])] #[])), (29, zUn 200)]
  rfl mixed rfl rfl (by kernel_rfl) (by kernel_rfl) rfl ?_ ?_
 ·simp only [zVU, List.cons_append, List.nil_append, go_sem, *]
 ·refine ⟨80, [.ptr 0 0, iV i, iV wd], ?_, hcf, ?_⟩
  ·simp only [zVD, List.cons_append, List.nil_append, go_sem, *]
  ·simp only [List.cons_append, List.nil_append, go_sem]
   refine zDR [0] sf ?_ (by simp) (by simp only [go_sem, *]) (by simp only [go_sem, *]) rfl (by simp)
   intro env
   simp only [z6, go_sem]
   refine ⟨[some 0], [], ?_⟩
   simp only [go_sem, *]
end Go.Abs

namespace Go.Abs
open Go Go.Proofs Tryz
attribute [local irreducible] q9 Hold y2
variable [Cur]
theorem zPH (x : Int) : zBH prog 79 .returning .returning [.ptr 0 0] [.box [iV x]] [.box [iV x]] := by
 have hlo : I6 .returning = .returning := rfl
 have hu : prog.underlying 20 = some (.interface #[]) := by kernel_rfl
 have hr1 : (Y1 .returning).1 = .nilIface := rfl
 have hr2 : (Y1 .returning).2 = .returning := rfl
 refine zHW func79 rfl (fun E hE => ?_)
 simp only [go_sem, ntmps79]
 refine zG6 rfl ?_
 refine zG5 (post := []) rfl rfl rfl rfl rfl (fun d hd => by cases hd; simp only [go_sem]) ?_
 refine w7 ?_
 refine zFh ?_
 simp only [go_sem, *]
 refine wk1 trivial ?_
 refine ⟨[], [some 0], [], trivial, ?_⟩
 simp only [go_sem, *]
theorem zPI : zBH prog 79 (.panicking (zUt V0)) .returning [.ptr 0 0] [.box [iV 0]] [.box [iV 11]] := by
 have hu : prog.underlying 20 = some (.interface #[]) := by kernel_rfl
 have hr1 : (Y1 (.panicking (zUt V0))).1 = V0 := rfl
 have hr2 : (Y1 (.panicking (zUt V0))).2 = .panicking [{ v := V0, recovered := true }] := rfl
 have hlo : I6 (.panicking [{ v := V0, recovered := true }]) = .returning := rfl
 refine zHW func79 rfl (fun E hE => ?_)
 simp only [go_sem, ntmps79]
 refine zG6 rfl ?_
 refine zG5 (post := []) rfl rfl rfl rfl rfl (fun d hd => by cases hd; simp only [go_sem]) ?_
 refine w7 ?_
 rw [hr1, hr2]
 refine zFh ?_
 simp only [go_sem, *]
 refine wk1 trivial ?_
 refine ⟨[], [some 0], [], trivial, ?_⟩
 simp only [go_sem, *]
abbrev zUi (v : Vol) (i : Nat) (x : AV) : List AObj := [.box [.ptr 4 0], .box [zUn 200], .box [iV i], .box [x], zUY v]
abbrev S9 : AV := .raw (.slice none 0 0)
theorem zOk (v : Vol) (i : Nat) (r : List Str) (se : zUL prog 41 [.ptr 0 0, zUn 200, iV i] [zUY v] (y4 r) [zUY v]) :
  zUL prog 40 [.ptr 0 0, .ptr 1 0, .ptr 2 0, .ptr 3 0] (zUi v i S9) (.tup []) (zUi v i (y4 r)) := by
 simp only [zUY, zUi] at *
 obtain ⟨st, wd, rw1, ⟨cls, hds⟩, rules, people⟩ := v
 dsimp only at *
 refine z9 func40 rfl (fun E hE => ?_); simp only [go_sem, ntmps40]
 refine we1 (own [4] (se)) ?_
 refine ⟨[], [some 0, some 1, some 2, some 3, some 4], [], trivial, ?_⟩
 simp only [go_sem, Q9, *]
theorem zOl (v : Vol) (i : Nat) (se : G7 prog 41 V0 [.ptr 0 0, zUn 200, iV i] [zUY v] [zUY v]) :
  G7 prog 40 V0 [.ptr 0 0, .ptr 1 0, .ptr 2 0, .ptr 3 0] (zUi v i S9) (zUi v i S9) := by
 have hcf : y9 prog 41 = true := by kernel_rfl
 simp only [zUY, zUi] at *
 obtain ⟨st, wd, rw1, ⟨cls, hds⟩, rules, people⟩ := v
 dsimp only at *
 refine zDo func40 rfl (fun E hE => ?_)
 simp only [go_sem, ntmps40]
 refine zG2 (v := V0) 3 rfl rfl rfl rfl ?_
 simp only [List.take_succ_cons, List.take_zero, List.drop_succ_cons, List.drop_zero]
 repeat' (first | (refine Qr (ops := _ :: _) rfl ?_; try intro _ hK; try simp only [go_sem, *]) | (refine Qi rfl rfl rfl rfl ?_ ?_ <;> (intro hb; (try intro _ hK); have hc := hb; try simp only [go_sem] at hc; simp only [go_sem, *])) | (refine Qb ?_ ?_; focus kernel_rfl) | ((with_reducible apply And.intro); focus omega) | (refine z7 hK ?_; clear hK; simp only [go_sem, *]) | simp only [z6, z5, go_sem, *])
 refine w7 ?_
 simp only [go_sem]
 refine ⟨41, [.ptr 4 0, zUn 200, iV i], ?_, hcf, ?_⟩
 ·simp only [zVD, go_sem, *]
 ·refine zDR [4] se ?_ (by simp) (by simp only [go_sem, *]) (by simp only [go_sem, *]) rfl (by simp)
  simp only [go_sem]
  refine ⟨[some 0, some 1, some 2, some 3, some 4], [], ?_⟩
  simp only [go_sem, *]
abbrev zCb : AV := .fn 40 [.ptr 0 0, .ptr 1 0, .ptr 2 0, .ptr 3 0]
theorem zPG (v : Vol) (i : Nat) (r : List Str) (s1 : zUL prog 40 [.ptr 0 0, .ptr 1 0, .ptr 2 0, .ptr 3 0] (zUi v i S9) (.tup []) (zUi v i (y4 r))) :
  zUL prog 39 [zCb] (zUi v i S9) (iV 0) (zUi v i (y4 r)) := by
 have hca : y9 prog 40 = true := by kernel_rfl
 simp only [zUY, zUi] at *
 obtain ⟨st, wd, rw1, ⟨cls, hds⟩, rules, people⟩ := v
 dsimp only at *
 refine zHZ (m := 6) (g := 79) (caps := [.ptr 5 0]) (pre := [_]) (rest := sub [1, 1] (W3 Tryz.f39)) func39 rfl rfl rfl rfl (by kernel_rfl) (by simp) (fun x hx => by
  simp only [List.mem_cons, List.not_mem_nil, or_false] at hx
  subst hx
  exact ⟨5, by decide, rfl⟩) (fun E hE => ?_)
 clear hE
 simp only [go_sem, ntmps39]
 repeat' (first | (refine Qr (ops := _ :: _) rfl ?_; try intro _ hK; try simp only [go_sem, *]) | (refine Qi rfl rfl rfl rfl ?_ ?_ <;> (intro hb; (try intro _ hK); have hc := hb; try simp only [go_sem] at hc; simp only [go_sem, *])) | (refine Qb ?_ ?_; focus kernel_rfl) | ((with_reducible apply And.intro); focus omega) | (refine z7 hK ?_; clear hK; simp only [go_sem, *]) | simp only [z6, z5, go_sem, *])
 refine w7 ?_
 try simp only [go_sem, *]
 repeat' (first | (refine Qr (ops := _ :: _) rfl ?_; try intro _ hK; try simp only [go_sem, *]) | (refine Qi rfl rfl rfl rfl ?_ ?_ <;> (intro hb; (try intro _ hK); have hc := hb; try simp only [go_sem] at hc; simp only [go_sem, *])) | (refine Qb ?_ ?_; focus kernel_rfl) | ((with_reducible apply And.intro); focus omega) | (refine z7 hK ?_; clear hK; simp only [go_sem, *]) | simp only [z6, z5, go_sem, *])
 refine w7 ?_
 simp only [go_sem, *]
 refine ⟨fun k hk => ?_, fun E' hE' => ?_⟩
 ·rcases k with _ | _ | _ | _ | _ | _ | k
  ·rfl
  ·rfl
  ·rfl
  ·rfl
  ·rfl
  ·rfl
  ·omega
 refine we1 (own [0, 1, 2, 3, 4] (s1)) ?_
 refine zEn .returning [5] (zPH 0) rfl (by simp) (by simp only [go_sem, *]) (by simp only [go_sem, *]) rfl (by simp) ?_
 refine ⟨[iV 0], [some 0, some 1, some 2, some 3, some 4], [], ⟨(by simp only [W0, go_sem]), trivial⟩, ?_⟩
 simp only [go_sem, *]
theorem zPJ (v : Vol) (i : Nat) (s1 : G7 prog 40 V0 [.ptr 0 0, .ptr 1 0, .ptr 2 0, .ptr 3 0] (zUi v i S9) (zUi v i S9)) :
  zUL prog 39 [zCb] (zUi v i S9) (iV 11) (zUi v i S9) := by
 have hca : y9 prog 40 = true := by kernel_rfl
 simp only [zUY, zUi] at *
 obtain ⟨st, wd, rw1, ⟨cls, hds⟩, rules, people⟩ := v
 dsimp only at *
 refine zHZ (m := 6) (g := 79) (caps := [.ptr 5 0]) (pre := [_]) (rest := sub [1, 1] (W3 Tryz.f39)) func39 rfl rfl rfl rfl (by kernel_rfl) (by simp) (fun x hx => by
  simp only [List.mem_cons, List.not_mem_nil, or_false] at hx
  subst hx
  exact ⟨5, by decide, rfl⟩) (fun E hE => ?_)
 clear hE
 simp only [go_sem, ntmps39]
 repeat' (first | (refine Qr (ops := _ :: _) rfl ?_; try intro _ hK; try simp only [go_sem, *]) | (refine Qi rfl rfl rfl rfl ?_ ?_ <;> (intro hb; (try intro _ hK); have hc := hb; try simp only [go_sem] at hc; simp only [go_sem, *])) | (refine Qb ?_ ?_; focus kernel_rfl) | ((with_reducible apply And.intro); focus omega) | (refine z7 hK ?_; clear hK; simp only [go_sem, *]) | simp only [z6, z5, go_sem, *])
 refine w7 ?_
 try simp only [go_sem, *]
 repeat' (first | (refine Qr (ops := _ :: _) rfl ?_; try intro _ hK; try simp only [go_sem, *]) | (refine Qi rfl rfl rfl rfl ?_ ?_ <;> (intro hb; (try intro _ hK); have hc := hb; try simp only [go_sem] at hc; simp only [go_sem, *])) | (refine Qb ?_ ?_; focus kernel_rfl) | ((with_reducible apply And.intro); focus omega) | (refine z7 hK ?_; clear hK; simp only [go_sem, *]) | simp only [z6, z5, go_sem, *])
 refine w7 ?_
 simp only [go_sem, *]
 refine ⟨fun k hk => ?_, fun E' hE' => ?_⟩
 ·rcases k with _ | _ | _ | _ | _ | _ | k
  ·rfl
  ·rfl
  ·rfl
  ·rfl
  ·rfl
  ·rfl
  ·omega
 repeat' (first | ((with_reducible refine M0 [0, 1, 1] ?_)) | (refine Qr rfl ?_; try intro _ hK; try simp only [go_sem, *]) | (refine Qi rfl rfl rfl rfl ?_ ?_ <;> (intro hb; (try intro _ hK); have hc := hb; try simp only [go_sem] at hc; simp only [go_sem, *])) | refine Qh rfl ?_ | refine Qd rfl (by kernel_rfl) ?_ | (refine Qc rfl rfl ?_ ?_ <;> (intro hb; have hc := hb; try simp only [go_sem] at hc)) | refine z8 rfl ?_ | (with_reducible (show (∀ _ : AV, _ → _) ∧ _); refine wel ?_) | (refine Qb ?_ ?_; focus kernel_rfl) | ((with_reducible apply And.intro); focus omega) | (refine z7 hK ?_; clear hK; simp only [go_sem, *]) | simp only [z6, z5, go_sem, *])
 refine ⟨?_⟩
 refine zG2 (v := V0) 1 rfl rfl rfl rfl ?_
 simp only [List.take_succ_cons, List.take_zero, List.drop_succ_cons, List.drop_zero]
 repeat' (first | (refine Qr (ops := _ :: _) rfl ?_; try intro _ hK; try simp only [go_sem, *]) | (refine Qi rfl rfl rfl rfl ?_ ?_ <;> (intro hb; (try intro _ hK); have hc := hb; try simp only [go_sem] at hc; simp only [go_sem, *])) | (refine Qb ?_ ?_; focus kernel_rfl) | ((with_reducible apply And.intro); focus omega) | (refine z7 hK ?_; clear hK; simp only [go_sem, *]) | simp only [z6, z5, go_sem, *])
 refine w7 ?_
 simp only [go_sem]
 refine ⟨40, [.ptr 0 0, .ptr 1 0, .ptr 2 0, .ptr 3 0], ?_, hca, ?_⟩
 ·simp only [zVD, go_sem, *]
 ·refine zDR [0, 1, 2, 3, 4] s1 ?_ (by simp) (by simp only [go_sem, *]) (by simp only [go_sem, *]) rfl (by simp)
  simp only [z6, go_sem]
  refine zEn (.panicking (zUt V0)) [5] zPI rfl (by simp) (by simp only [go_sem, *]) (by simp only [go_sem, *]) rfl (by simp) ?_
  refine ⟨[iV 11], [some 0, some 1, some 2, some 3, some 4], [], ⟨(by simp only [W0, go_sem]), trivial⟩, ?_⟩
  simp only [go_sem, *]
end Go.Abs

namespace Go.Abs
open Go Go.Proofs Tryz
attribute [local irreducible] q9 Hold y2
variable [Cur]
theorem zHD (v : Vol) (i : Nat) (ok : VolOK v) (hi : i < v.people.length) (r : AV) (e : Int)
  (sc : zUL prog 39 [zCb] (zUi v i S9) (iV e) (zUi v i r)) (hr : r = S9 ∨ ∃ l, r = y4 l) : zUL prog 11 [v.enc, iV 1, iV i] [] (.tup [r, iV e]) [] := by
 have sb := zHK v ok
 have s1 := H7 i 0 (v.people.length - 1)
 have b1 : btw i 0 (v.people.length - 1) = true := by unfold btw; simp; omega
 rw [b1] at s1
 have ss := zHU (v.people.getD i default)
 have ah : D8 prog 200 (.agg #[]) "wayzgoose/part.stands" := fun w => ⟨by kernel_rfl, fun es => by kernel_rfl⟩
 have hl := ok.pl
 clear ok b1
 simp only [zUY, zUi] at *
 obtain ⟨st, wd, rw1, ⟨cls, hds⟩, rules, people⟩ := v
 simp only [Vol.enc, Trd.enc] at *
 have hw : IntKind.i64.wrap ((people.length : Int) - 1) = (people.length : Int) - 1 := wrap_i64 (by omega) (by omega)
 generalize hp : people.getD i default = p at *
 rcases hr with rfl | ⟨l, rfl⟩
 ·refine z9 func11 rfl (fun E hE => ?_); simp only [go_sem, ntmps11]
  refine we1 (cc sb (cc s1 (cc ss (own [3, 4, 1, 5, 2] (sc))))) ?_
  refine ⟨[_, _], [], [], ⟨rfl, rfl, trivial⟩, ?_⟩
  simp only [go_sem, *]
 ·refine z9 func11 rfl (fun E hE => ?_); simp only [go_sem, ntmps11]
  refine we1 (cc sb (cc s1 (cc ss (own [3, 4, 1, 5, 2] (sc))))) ?_
  refine ⟨[_, _], [], [], ⟨rfl, rfl, trivial⟩, ?_⟩
  simp only [go_sem, *]
end Go.Abs

namespace Go.Abs
open Go Go.Proofs Tryz
variable [Cur]
section
variable {α : Type}
def adj (R : α → α → Prop) : List α → Prop
 | a :: b :: r => R a b ∧ adj R (b :: r)
 | _ => True
theorem zEH {R : α → α → Prop} {a : α} : ∀ {l : List α}, adj R l → (∀ b, l.getLast? = some b → R b a) → adj R (l ++ [a])
 | [], _, _ => trivial
 | [b], _, h => ⟨h b rfl, trivial⟩
 | b :: c :: r, h1, h2 => ⟨h1.1, zEH (l := c :: r) h1.2 (fun x hx => h2 x (by simpa using hx))⟩
theorem zCD {R : α → α → Prop} : ∀ {l : List α}, adj R l → adj (fun a b => R b a) l.reverse
 | [], _ => trivial
 | [a], _ => trivial
 | a :: b :: r, h => by
  rw [List.reverse_cons]
  refine zEH (zCD h.2) fun x hx => ?_
  have : x = b := by simpa using hx.symm
  subst this; exact h.1
theorem zFl (cf : α → α → Int) (x : α) : ∀ {l : List α}, (∀ y, y ∈ l → cf x y < 0 → ¬ cf y x < 0) → adj (fun a b => ¬ cf a b < 0) l → adj (fun a b => ¬ cf a b < 0) (zU5 cf x l)
 | [], _, _ => trivial
 | [y], h, _ => by
  unfold zU5
  by_cases q : cf x y < 0
  ·rw [if_pos q]; exact ⟨h y (by simp) q, trivial⟩
  ·rw [if_neg q]; exact ⟨q, trivial⟩
 | y :: z :: r, h, h1 => by
  have ih := zFl cf x (l := z :: r) (fun w hw => h w (List.mem_cons_of_mem _ hw)) h1.2
  unfold zU5
  by_cases q : cf x y < 0
  ·rw [if_pos q]
   unfold zU5 at ih ⊢
   by_cases q2 : cf x z < 0
   ·rw [if_pos q2] at ih ⊢; exact ⟨h1.1, ih⟩
   ·rw [if_neg q2] at ih ⊢; exact ⟨h y (by simp) q, ih⟩
  ·rw [if_neg q]; exact ⟨q, h1⟩
theorem zME (cf : α → α → Int) {xs : List α} (h : ∀ a b, a ∈ xs → b ∈ xs → cf a b < 0 → ¬ cf b a < 0) : adj (fun a b => ¬ cf b a < 0) (a8 cf xs) := by
 have key : ∀ (l pre : List α), (∀ a, a ∈ l → a ∈ xs) → (∀ a, a ∈ pre → a ∈ xs) → adj (fun a b => ¬ cf b a < 0) pre → adj (fun a b => ¬ cf b a < 0) (l.foldl (zUj cf) pre) := by
  intro l
  induction l with
  | nil => exact fun pre _ _ h => h
  | cons x r ih =>
   intro pre hl hp hpre
   refine ih _ (fun a ha => hl a (List.mem_cons_of_mem _ ha)) (fun a ha => ?_) ?_
   ·rcases List.mem_append.1 ((zFk cf pre x).mem_iff.1 ha) with h1 | h1
    ·exact hp a h1
    ·rw [List.mem_singleton.1 h1]; exact hl x (by simp)
   ·unfold zUj
    have h1 := zFl cf x (l := pre.reverse) (fun y hy => h x y (hl x (by simp)) (hp y (by simpa using hy))) (zCD hpre)
    exact zCD h1
 exact key xs [] (fun _ h => h) (fun _ h => by cases h) trivial
end
theorem zGZ (f : Nat → Str) : ∀ {l : List Nat}, adj (fun a b => ¬ l4 (f b) (f a) < 0) l → Q0 (l.map f) = true
 | [], _ => rfl
 | [_], _ => rfl
 | a :: b :: r, h => by
  have ih := zGZ f (l := b :: r) h.2
  simp only [List.map_cons] at ih ⊢
  rw [Q0, ih, decide_eq_false h.1]; rfl
theorem zRh {l : List Str} (h : Q0 l = true) : P9 l = [] := by
 have hL := zIC l
 have h0 : zCA l [] := by
  refine ⟨⟨List.Pairwise.nil, fun i hi => by cases hi⟩, ?_⟩
  have : G2 l [] = l := by
   unfold G2
   rw [List.filter_eq_self.2 (fun i _ => by simp)]
   apply List.ext_getElem
   ·simp
   ·intro i h1 h2
    simp [List.getD, h2]
  rw [this]; exact h
 have h1 := hL.2 [] h0
 cases hw : P9 l with
 | nil => rfl
 | cons x r =>
  exfalso
  refine h1 ?_
  rw [hw]
  have h2 : zUU (([] : List Nat).length : Int) ((x :: r).length : Int) = -1 := by
   unfold zUU
   rw [if_pos (by simp)]
  unfold v9 orI
  rw [h2, if_neg (by decide)]
  decide
theorem zGX : ∀ (xs ys : List Int), xs.length = ys.length → (∀ i, i < xs.length → ys.getD i 0 = -xs.getD i 0) → orL xs < 0 → ¬ orL ys < 0
 | [], ys, h, _, h1 => by simp [orL] at h1
 | x :: r, [], h, _, _ => by simp at h
 | x :: r, y :: s, h, h1, h2 => by
  have h0 : y = -x := by simpa using h1 0 (by simp)
  unfold orL at h2 ⊢
  by_cases q : x = 0
  ·rw [if_pos q] at h2
   rw [if_pos (by omega)]
   exact zGX r s (by simpa using h) (fun i hi => by simpa using h1 (i + 1) (by simpa using hi)) h2
  ·rw [if_neg q] at h2
   rw [if_neg (by omega)]; omega
theorem zM1 {p q : Per} (hp : v5 p.name = 0) (hq : v5 q.name = 0) : nmV q p = -nmV p q := by
 have e1 : W5 p.name q.name = 0 := by unfold W5; rw [zAE, if_pos hp, hq]
 have e2 : W5 q.name p.name = 0 := by unfold W5; rw [zAE, if_pos hq, hp]
 unfold nmV
 rw [if_pos e1, if_pos e2, zEh]
theorem zM2 {p q : Per} (hp : v5 p.name = 0) (hq : v5 q.name = 0) : nmV p q = l4 p.name q.name := by
 have e1 : W5 p.name q.name = 0 := by unfold W5; rw [zAE, if_pos hp, hq]
 unfold nmV
 rw [if_pos e1]
structure PerSm (p : Per) : Prop where
 nm : ValidN p.name
 st : 0 ≤ p.street ∧ p.street < 100
 nu : 0 ≤ p.number ∧ p.number < 100
 hd : -1 ≤ p.head ∧ p.head < 100
theorem zDS {v : Vol} (ok : VolOK v) {p : Per} (hp : p ∈ v.people) : PerSm p := by
 have h := ok.pe p hp
 have hs := ok.st
 have ht := (zA9 ok.tr).2
 unfold N3 at h
 by_cases q0 : v5 p.name = 0
 ·rw [if_neg (by simpa using q0)] at h
  by_cases q1 : btw p.street 0 (v.streets - 1) = false
  ·rw [if_pos q1] at h; cases h
  ·rw [if_neg q1] at h
   by_cases q2 : btw p.number 1 40 = false
   ·rw [if_pos q2] at h; cases h
   ·rw [if_neg q2] at h
    by_cases q3 : btw p.head (-1) (v.tr.hds.length - 1) = false
    ·rw [if_pos q3] at h; cases h
    ·unfold btw at q1 q2 q3
     simp only [Bool.not_eq_false, Bool.and_eq_true, decide_eq_true_eq] at q1 q2 q3
     exact ⟨checkN_zero.1 q0, by omega, by omega, by omega⟩
 ·rw [if_pos q0] at h; exact absurd h q0
theorem zBy {a b : Int} (ha : -1 ≤ a ∧ a < 100) (hb : -1 ≤ b ∧ b < 100) : j5 b a = -j5 a b := by
 unfold j5
 rw [wrap_i64 (by omega) (by omega), wrap_i64 (by omega) (by omega)]; omega
theorem zEV (p : Per) : -1 ≤ boV p ∧ boV p < 100 := by unfold boV; split <;> omega
theorem zJn {p q : Per} (hp : PerSm p) (hq : PerSm q) (h : o9 p q < 0) : ¬ o9 q p < 0 := by
 unfold o9 at h ⊢
 refine zGX [nmV p q, j5 p.street q.street, j5 p.number q.number, j5 p.head q.head, j5 (boV p) (boV q)] _ rfl (fun i hi => ?_) h
 have hst := hp.st; have hst2 := hq.st; have hnu := hp.nu; have hnu2 := hq.nu
 rcases i with _ | _ | _ | _ | _ | i
 ·exact zM1 (checkN_zero.2 hp.nm) (checkN_zero.2 hq.nm)
 ·exact zBy (by omega) (by omega)
 ·exact zBy (by omega) (by omega)
 ·exact zBy hp.hd hq.hd
 ·exact zBy (zEV p) (zEV q)
 ·simp only [List.length_cons, List.length_nil] at hi; omega
abbrev V9 (l : List Per) : List Nat := T4 o9 zUa l
theorem zAC (l : List Per) : (V9 l).Perm (List.range l.length) := by
 unfold V9 T4
 have : (List.range l.length).filter (fun i => zUa (l.getD i default)) = List.range l.length := List.filter_eq_self.2 fun i _ => rfl
 rw [this]
 exact zC0 _ _
theorem zGY (l : List Per) : (V9 l).length = l.length := by rw [(zAC l).length_eq, List.length_range]
theorem zNE (l : List Per) {i : Nat} (h : i < l.length) : (V9 l).getD i default < l.length := by
 have h1 : (V9 l).getD i default ∈ V9 l := u5 (by rw [zGY]; exact h)
 exact List.mem_range.1 ((zAC l).mem_iff.1 h1)
theorem zNF (l : List Per) : (V9 l).Nodup := (zAC l).nodup_iff.2 List.nodup_range
theorem zNG {v : Vol} (ok : VolOK v) : Q0 ((V9 v.people).map fun i => (v.people.getD i default).name) = true := by
 have hsm : ∀ i, i ∈ List.range v.people.length → PerSm (v.people.getD i default) := fun i hi => zDS ok (u5 (List.mem_range.1 hi))
 have hf : (List.range v.people.length).filter (fun i => zUa (v.people.getD i default)) = List.range v.people.length := List.filter_eq_self.2 fun i _ => rfl
 have h := zME (fun a b => o9 (v.people.getD a default) (v.people.getD b default)) (xs := List.range v.people.length) (fun a b ha hb => zJn (hsm a ha) (hsm b hb))
 have key : ∀ l : List Nat, (∀ i, i ∈ l → i ∈ List.range v.people.length) → adj (fun a b => ¬ o9 (v.people.getD b default) (v.people.getD a default) < 0) l → adj (fun a b => ¬ l4 (v.people.getD b default).name (v.people.getD a default).name < 0) l := by
  intro l
  induction l with
  | nil => exact fun _ _ => trivial
  | cons a r ih =>
   intro hm hl
   cases r with
   | nil => trivial
   | cons b r =>
    refine ⟨fun hc => hl.1 ?_, ih (fun i hi => hm i (List.mem_cons_of_mem _ hi)) hl.2⟩
    have ha := hsm a (hm a (by simp))
    have hb := hsm b (hm b (by simp))
    rw [← zM2 (checkN_zero.2 hb.nm) (checkN_zero.2 ha.nm)] at hc
    unfold o9 orL
    rw [if_neg (by omega)]; exact hc
 refine zGZ (fun i => (v.people.getD i default).name) (key _ (fun i hi => (zAC v.people).mem_iff.1 hi) ?_)
 unfold V9 T4
 rw [hf]; exact h
end Go.Abs

