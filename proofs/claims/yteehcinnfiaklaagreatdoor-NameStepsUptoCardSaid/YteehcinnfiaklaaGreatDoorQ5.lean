/-
  WHAT THE PROOF STANDS ON, PART 5: contracts of the program's functions and the logic that they are proved in. No condition.
-/
import Derived.Test.YteehcinnfiaklaaGreatDoorQ4
set_option maxRecDepth 100000
set_option maxHeartbeats 4000000
set_option linter.unusedVariables false
set_option linter.unusedSimpArgs false
set_option linter.unusedSectionVars false
namespace Go.Abs
open Go Go.Proofs Tryz
attribute [local irreducible] q9 Hold y8
def rrT (s a b : Str) (i : Nat) : Str := s.take i ++ b ++ s.drop (i + a.length)
def zPI (s a b : Str) (i : Nat) : List Str := if (s.take (i + a.length)).drop i = a then (if 1 ≤ (rrT s a b i).length ∧ (rrT s a b i).length ≤ 12 then [rrT s a b i] else []) else []
def zN8 (s a b : Str) (i : Nat) : List Str := (List.range' i (s.length + 1 - a.length - i)).flatMap (zPI s a b)
theorem zOa {s a b : Str} {i : Nat} (h : i + a.length ≤ s.length) : zN8 s a b i = zPI s a b i ++ zN8 s a b (i + 1) := by
 unfold zN8
 rw [show s.length + 1 - a.length - i = (s.length + 1 - a.length - (i + 1)) + 1 by omega, List.range'_succ, List.flatMap_cons]
theorem zOZ {s a b : Str} {i : Nat} (h : ¬ i + a.length ≤ s.length) : zN8 s a b i = [] := by
 unfold zN8
 rw [show s.length + 1 - a.length - i = 0 by omega]; rfl
theorem zOb {k a b x : Str} (h : x ∈ j4 k a b) : x ∈ zN8 k a b 0 := by
 obtain ⟨i, h1, h2, h3, h4⟩ := mem_replacedN.1 h
 have hp := zAj h2
 have hsp := zGo h2
 have hil : i + a.length ≤ k.length := by simp at hp; omega
 have ht : (k.take (i + a.length)).drop i = a := by
  rw [List.drop_take, show i + a.length - i = a.length by omega, hsp]; simp
 unfold x5 at h3
 simp only [Bool.and_eq_true, decide_eq_true_eq] at h3
 unfold zN8
 refine List.mem_flatMap.2 ⟨i, List.mem_range'_1.2 ⟨by omega, by omega⟩, ?_⟩
 unfold zPI
 have e : rrT k a b i = x := h4.symm
 rw [if_pos ht, e, if_pos ⟨h3.1, h3.2.1⟩]; simp
theorem zOf (s a b : Str) (hs : s.length ≤ 1000) (ha : a.length ≤ 1000) (hbl : b.length ≤ 1000) : zMf prog 89 [sV s, sV a, sV b] [] (.own 0 1 0 (zN8 s a b 0).length) [.row 1 ((zN8 s a b 0).map sV)] := by
 obtain ⟨T, hT⟩ : ∃ T, zN8 s a b 0 = T := ⟨_, rfl⟩
 rw [hT]
 have h0 : [] ++ zN8 s a b 0 = T := hT
 clear hT
 refine q7 func89 rfl (fun E hE => ?_); simp only [go_sem, ntmps89]
 repeat' (first | (refine Qr rfl ?_; try intro _ hK; try simp only [go_sem, *]) | (refine Qi rfl rfl rfl rfl ?_ ?_ <;> (intro hb; (try intro _ hK); have hc := hb; try simp only [go_sem] at hc; simp only [go_sem, *])) | refine Qh rfl ?_ | refine Qd rfl (by kernel_rfl) ?_ | (refine Qc rfl rfl ?_ ?_ <;> (intro hb; have hc := hb; try simp only [go_sem] at hc)) | refine q6 rfl ?_ | (refine Qb ?_ ?_; focus kernel_rfl) | ((with_reducible apply And.intro); focus omega) | (refine z8 hK ?_; clear hK; simp only [go_sem, *]) | simp only [z7, z6, go_sem, *])
 refine a7 rfl (s.length + 1 - a.length) (fun i (acc : List Str) => acc ++ zN8 s a b i = T ∧ acc.length ≤ i) 53 (fun i acc => [(8, iV i), (7, .own 0 1 0 acc.length), (0, sV s), (1, sV a), (2, sV b)]) (fun i acc => [.row 1 (acc.map sV)]) [none] [] ([]) (by exact ⟨h0, by simp⟩) ?_; intro i acc hi hP
 clear h0
 obtain ⟨hP, hal⟩ := hP
 have hwl : IntKind.i64.wrap ((i : Int) + (a.length : Int)) = ((i + a.length : Nat) : Int) := by rw [wrap_i64 (by omega) (by omega)]; omega
 by_cases hi2 : i + a.length ≤ s.length
 ·rw [zOa hi2] at hP
  have hil : ((i + a.length : Nat) : Int) ≤ (s.length : Int) := by omega
  have hwi : IntKind.i64.wrap ((i : Int) + 1) = ((i + 1 : Nat) : Int) := r9 (by omega)
  unfold zPI at hP
  by_cases q : (s.take (i + a.length)).drop i = a
  ·rw [if_pos q] at hP
   have hb1 : (List.drop i (List.take (i + a.length) s) == a) = true := by simpa using q
   clear q
   have htl : (rrT s a b i).length ≤ 3000 := by unfold rrT; simp; omega
   have ht : List.take i s ++ b ++ List.drop (i + a.length) s = rrT s a b i := rfl
   generalize rrT s a b i = t at *
   by_cases ql : 1 ≤ t.length ∧ t.length ≤ 12
   ·rw [if_pos ql] at hP
    have hP2 : (acc ++ [t]) ++ zN8 s a b (i + 1) = T := by rw [← hP]; simp
    obtain ⟨q1, q2⟩ := ql
    clear hP
    repeat' (first | (refine Qr rfl ?_; try intro _ hK; try simp only [go_sem, *]) | (refine Qi rfl rfl rfl rfl ?_ ?_ <;> (intro hb; (try intro _ hK); have hc := hb; try simp only [go_sem] at hc; simp only [go_sem, *])) | refine Qh rfl ?_ | refine Qd rfl (by kernel_rfl) ?_ | (refine Qc rfl rfl ?_ ?_ <;> (intro hb; have hc := hb; try simp only [go_sem] at hc)) | refine q6 rfl ?_ | (refine Qb ?_ ?_; focus kernel_rfl) | ((with_reducible apply And.intro); focus omega) | (refine z8 hK ?_; clear hK; simp only [go_sem, *]) | simp only [z7, z6, go_sem, *])
    all_goals first | contradiction | omega | skip
    exact o7 (i' := i + 1) [some 2] [] (acc ++ [t]) (by exact ⟨hP2, by simp; omega⟩)
   ·rw [if_neg ql] at hP
    have hP2 : acc ++ zN8 s a b (i + 1) = T := hP
    clear hP
    by_cases q1 : 1 ≤ t.length
    ·have q2 : ¬ t.length ≤ 12 := fun h => ql ⟨q1, h⟩
     clear ql
     repeat' (first | (refine Qr rfl ?_; try intro _ hK; try simp only [go_sem, *]) | (refine Qi rfl rfl rfl rfl ?_ ?_ <;> (intro hb; (try intro _ hK); have hc := hb; try simp only [go_sem] at hc; simp only [go_sem, *])) | refine Qh rfl ?_ | refine Qd rfl (by kernel_rfl) ?_ | (refine Qc rfl rfl ?_ ?_ <;> (intro hb; have hc := hb; try simp only [go_sem] at hc)) | refine q6 rfl ?_ | (refine Qb ?_ ?_; focus kernel_rfl) | ((with_reducible apply And.intro); focus omega) | (refine z8 hK ?_; clear hK; simp only [go_sem, *]) | simp only [z7, z6, go_sem, *])
     all_goals first | contradiction | omega | skip
     exact o7 (i' := i + 1) [some 0] [] (acc) (by exact ⟨hP2, by omega⟩)
    ·clear ql
     repeat' (first | (refine Qr rfl ?_; try intro _ hK; try simp only [go_sem, *]) | (refine Qi rfl rfl rfl rfl ?_ ?_ <;> (intro hb; (try intro _ hK); have hc := hb; try simp only [go_sem] at hc; simp only [go_sem, *])) | refine Qh rfl ?_ | refine Qd rfl (by kernel_rfl) ?_ | (refine Qc rfl rfl ?_ ?_ <;> (intro hb; have hc := hb; try simp only [go_sem] at hc)) | refine q6 rfl ?_ | (refine Qb ?_ ?_; focus kernel_rfl) | ((with_reducible apply And.intro); focus omega) | (refine z8 hK ?_; clear hK; simp only [go_sem, *]) | simp only [z7, z6, go_sem, *])
     all_goals first | contradiction | omega | skip
     exact o7 (i' := i + 1) [some 0] [] (acc) (by exact ⟨hP2, by omega⟩)
  ·rw [if_neg q] at hP
   have hb1 : (List.drop i (List.take (i + a.length) s) == a) = false := by simpa using q
   have hP2 : acc ++ zN8 s a b (i + 1) = T := hP
   clear q hP
   repeat' (first | (refine Qr rfl ?_; try intro _ hK; try simp only [go_sem, *]) | (refine Qi rfl rfl rfl rfl ?_ ?_ <;> (intro hb; (try intro _ hK); have hc := hb; try simp only [go_sem] at hc; simp only [go_sem, *])) | refine Qh rfl ?_ | refine Qd rfl (by kernel_rfl) ?_ | (refine Qc rfl rfl ?_ ?_ <;> (intro hb; have hc := hb; try simp only [go_sem] at hc)) | refine q6 rfl ?_ | (refine Qb ?_ ?_; focus kernel_rfl) | ((with_reducible apply And.intro); focus omega) | (refine z8 hK ?_; clear hK; simp only [go_sem, *]) | simp only [z7, z6, go_sem, *])
   all_goals first | contradiction | omega | skip
   exact o7 (i' := i + 1) [some 0] [] (acc) (by exact ⟨hP2, by omega⟩)
 ·rw [zOZ hi2, List.append_nil] at hP
  subst hP
  have hil : ¬ ((i + a.length : Nat) : Int) ≤ (s.length : Int) := by omega
  repeat' (first | (refine Qr rfl ?_; try intro _ hK; try simp only [go_sem, *]) | (refine Qi rfl rfl rfl rfl ?_ ?_ <;> (intro hb; (try intro _ hK); have hc := hb; try simp only [go_sem] at hc; simp only [go_sem, *])) | refine Qh rfl ?_ | refine Qd rfl (by kernel_rfl) ?_ | (refine Qc rfl rfl ?_ ?_ <;> (intro hb; have hc := hb; try simp only [go_sem] at hc)) | refine q6 rfl ?_ | (refine Qb ?_ ?_; focus kernel_rfl) | ((with_reducible apply And.intro); focus omega) | (refine z8 hK ?_; clear hK; simp only [go_sem, *]) | simp only [z7, z6, go_sem, *])
  all_goals first | contradiction | omega | skip
  refine ⟨[_], [some 0], [], ⟨rfl, trivial⟩, ?_⟩
  simp only [go_sem, *]
def zN9 (r : List Rule) (s : Str) : List Str := r.flatMap fun x => zN8 s x.src x.dst 0 ++ zN8 s x.dst x.src 0
theorem zOs {r : List Rule} {s x : Str} (h : x ∈ p8 r s) : x ∈ zN9 r s := by
 unfold p8 at h
 obtain ⟨y, hy, hm⟩ := List.mem_flatMap.1 h
 refine List.mem_flatMap.2 ⟨y, hy, List.mem_append.2 ?_⟩
 exact (List.mem_append.1 hm).imp zOb zOb
theorem zOO (s a b : Str) (hs : s.length ≤ 1000) : (zN8 s a b 0).length ≤ 1001 := by
 have key : ∀ c i, s.length + 1 - a.length - i = c → (zN8 s a b i).length ≤ c := by
  intro c
  induction c with
  | zero => intro i h; rw [zOZ (by omega)]; simp
  | succ c ih =>
   intro i h
   rw [zOa (by omega), List.length_append]
   have := ih (i + 1) (by omega)
   have h2 : (zPI s a b i).length ≤ 1 := by
    unfold zPI
    split
    ·split <;> simp
    ·simp
   omega
 have := key _ 0 rfl
 omega
theorem zOd (r : List Rule) (s : Str) (hs : s.length ≤ 1000) (hr : r.length ≤ 1000) (hx : ∀ x, x ∈ r → x.src.length ≤ 1000 ∧ x.dst.length ≤ 1000) : zMf prog 40 [w4 r, sV s] [] (.own 0 1 0 (zN9 r s).length) [.row 1 ((zN9 r s).map sV)] := by
 obtain ⟨T, hT⟩ : ∃ T, zN9 r s = T := ⟨_, rfl⟩
 rw [hT]
 have h0 : [] ++ zN9 (r.drop 0) s = T := hT
 clear hT
 refine q7 func40 rfl (fun E hE => ?_); simp only [go_sem, ntmps40]
 repeat' (first | (refine Qr rfl ?_; try intro _ hK; try simp only [go_sem, *]) | refine Qh rfl ?_ | refine Qd rfl (by kernel_rfl) ?_ | (refine Qc rfl rfl ?_ ?_ <;> (intro hb; have hc := hb; try simp only [go_sem] at hc)) | refine q6 rfl ?_ | (refine Qb ?_ ?_; focus kernel_rfl) | ((with_reducible apply And.intro); focus omega) | (refine z8 hK ?_; clear hK; simp only [go_sem, *]) | simp only [z7, z6, go_sem, *])
 refine a7 rfl (r.length) (fun i (acc : List Str) => acc ++ zN9 (r.drop i) s = T ∧ acc.length ≤ 2002 * i) 42 (fun i acc => [(6, iV i), (5, .own 0 1 0 acc.length), (0, w4 r), (1, sV s)]) (fun i acc => [.row 1 (acc.map sV)]) [none] [] ([]) (by exact ⟨h0, by simp⟩) ?_; intro i acc hi hP
 clear h0
 obtain ⟨hP, hal⟩ := hP
 by_cases hi2 : i < r.length
 ·have hxi := hx _ (j3 hi2)
  have e : zN9 (r.drop i) s = (zN8 s (r.getD i default).src (r.getD i default).dst 0 ++ zN8 s (r.getD i default).dst (r.getD i default).src 0) ++ zN9 (r.drop (i + 1)) s := by
   rw [o3 hi2]; rfl
  rw [e] at hP
  have hii : (i : Int) < (r.length : Int) := by omega
  have hwi : IntKind.i64.wrap ((i : Int) + 1) = ((i + 1 : Nat) : Int) := r9 (by omega)
  have s1 := zOf s (r.getD i default).src (r.getD i default).dst hs hxi.1 hxi.2
  have s2 := zOf s (r.getD i default).dst (r.getD i default).src hs hxi.2 hxi.1
  have l1 := zOO s (r.getD i default).src (r.getD i default).dst hs
  have l2 := zOO s (r.getD i default).dst (r.getD i default).src hs
  generalize hsu : (r.getD i default).src = u at *
  generalize hsv : (r.getD i default).dst = v at *
  generalize zN8 s u v 0 = A at *
  generalize zN8 s v u 0 = B at *
  obtain ⟨C1, hC1⟩ : ∃ C, acc ++ A = C := ⟨_, rfl⟩
  obtain ⟨C2, hC2⟩ : ∃ C, C1 ++ B = C := ⟨_, rfl⟩
  have hP2 : C2 ++ zN9 (r.drop (i + 1)) s = T := by rw [← hP, ← hC2, ← hC1]; simp
  have hm1 : List.map sV acc ++ List.map sV A = List.map sV C1 := by rw [← hC1]; simp
  have hm2 : List.map sV C1 ++ List.map sV B = List.map sV C2 := by rw [← hC2]; simp
  have hl1 : acc.length + A.length = C1.length := by rw [← hC1]; simp
  have hl2 : C1.length + B.length = C2.length := by rw [← hC2]; simp
  have hl3 : C2.length ≤ 2002 * (i + 1) := by omega
  have hl4 : C1.length ≤ 3000000 := by omega
  clear hC1 hC2
  clear e hP hx
  repeat' (first | (refine Qr rfl ?_; try intro _ hK; try simp only [go_sem, *]) | refine Qh rfl ?_ | refine Qd rfl (by kernel_rfl) ?_ | (refine Qc rfl rfl ?_ ?_ <;> (intro hb; have hc := hb; try simp only [go_sem] at hc)) | refine q6 rfl ?_ | (with_reducible (show (∀ _ : AV, _ → _) ∧ _); refine And.intro ?_ ?_; (focus (intro y hy; first | (obtain ⟨z, _, rfl⟩ := List.mem_map.1 (hy); simp [go_sem]; done) | (obtain ⟨z, _, rfl⟩ := List.mem_map.1 (List.mem_of_mem_take hy); simp [go_sem]; done) | (obtain ⟨z, _, rfl⟩ := List.mem_map.1 (List.mem_of_mem_drop hy); simp [go_sem]; done) | (obtain ⟨z, _, rfl⟩ := List.mem_map.1 (List.mem_of_mem_drop (List.mem_of_mem_take hy)); simp [go_sem]; done)))) | (refine Qb ?_ ?_; focus kernel_rfl) | (refine j0 (s1) ?_; simp only [go_sem, *]) | (refine j0 (s2) ?_; simp only [go_sem, *]) | ((with_reducible apply And.intro); focus omega) | (refine z8 hK ?_; clear hK; simp only [go_sem, *]) | simp only [z7, z6, go_sem, *])
  all_goals first | contradiction | omega | skip
  exact o7 (i' := i + 1) [some 4] [] (C2) (by exact ⟨hP2, hl3⟩)
 ·rw [f5 (by omega)] at hP
  have hP2 : acc = T := by rw [← hP]; simp [zN9]
  subst hP2
  have hii : ¬ (i : Int) < (r.length : Int) := by omega
  repeat' (first | (refine Qr rfl ?_; try intro _ hK; try simp only [go_sem, *]) | refine Qh rfl ?_ | refine Qd rfl (by kernel_rfl) ?_ | (refine Qc rfl rfl ?_ ?_ <;> (intro hb; have hc := hb; try simp only [go_sem] at hc)) | refine q6 rfl ?_ | (refine Qb ?_ ?_; focus kernel_rfl) | ((with_reducible apply And.intro); focus omega) | (refine z8 hK ?_; clear hK; simp only [go_sem, *]) | simp only [z7, z6, go_sem, *])
  all_goals first | contradiction | omega | skip
  refine ⟨[_], [some 0], [], ⟨rfl, trivial⟩, ?_⟩
  simp only [go_sem, *]
end Go.Abs

namespace Go.Abs
open Go Go.Proofs Tryz
attribute [local irreducible] q9 Hold y8
def zPJ (n : Int) : Int := if n = 9 then 2 else if n = 0 then 1 else 3
theorem zO4 (r : List Rule) (a b : Str) (hr : r8 r = 0) (va : ValidN a) (vb : ValidN b) : zMf prog 39 [w4 r, sV a, sV b] [] (.tup [iV (zPJ (zMy r a b)), iV 0]) [] := by
 have sv := zMS r a b (zCz hr).1 (zCz hr).2
 have e : zDf r a b = zPJ (zMy r a b) ∧ zDe r a b = 0 := by
  unfold zDf zDe zPJ
  rcases zEM hr va vb with ⟨h1, h2, h3, h4⟩ | ⟨h1, h2, h3⟩
  ·rw [h1, if_neg (show ¬ (0 : Int) = 11 by decide), if_pos rfl, if_neg (show ¬ (0 : Int) = 11 by decide), h2, if_neg (show ¬ zMy r a b = 9 by omega)]
   exact ⟨rfl, rfl⟩
  ·rw [h1, if_pos rfl, if_pos rfl, if_pos h3]; exact ⟨rfl, rfl⟩
 rw [e.1, e.2] at sv
 exact sv
end Go.Abs

namespace Go.Abs
open Go Go.Proofs Tryz
attribute [local irreducible] q9 Hold y8
theorem zOX {l : List Rule} {to : Str} : ∀ {n : Nat} {s : Str} {c : List Str}, IsChain l to n s c → c.getD 0 default = s ∧ c.getD n default = to ∧ ∀ j, j < n → c.getD (j + 1) default ∈ p8 l (c.getD j default)
 | 0, _, _, .nil => ⟨rfl, rfl, fun j h => absurd h (Nat.not_lt_zero j)⟩
 | n + 1, s, _, .cons (s' := s') (c := c) hu hc => by
  obtain ⟨h1, h2, h3⟩ := zOX hc
  refine ⟨rfl, by simpa using h2, fun j hj => ?_⟩
  cases j with
  | zero =>
   have : (s :: c).getD (0 + 1) default = s' := by simpa using h1
   rw [this]; exact hu
  | succ j =>
   have := h3 j (by omega)
   simpa using this
def zOi (r : List Rule) (a b : Str) (c : List Str) (n : Nat) : Prop := c.length = n + 1 ∧ c.getD 0 default = zMg a ∧ c.getD n default = zMg b ∧ (∀ j, j < n → (c.getD j default).length ≤ 12 ∧ c.getD (j + 1) default ∈ zN9 r (c.getD j default)) ∧ (n = 0 ↔ zMg a = zMg b)
theorem zO5 {r : List Rule} {a b : Str} (hr : r8 r = 0) (va : ValidN a) (vb : ValidN b) :
  (zMy r a b = 9 ∧ r7 r a b = 11 ∧ X4 r a b = none) ∨ (∃ (n : Nat) (c : List Str), n ≤ 2 ∧ zMy r a b = n ∧ r7 r a b = 0 ∧ X4 r a b = some c ∧ zOi r a b c n) := by
 have hp := zEN hr va vb
 rcases zEM hr va vb with ⟨h1, h2, h3, h4⟩ | ⟨h1, h2, h3⟩
 ·obtain ⟨c, g1, g2, g3, g4, g5⟩ := zEK h1
  have hco : Z6 r a b = some c := by unfold X4 at g1; rwa [if_pos hp] at g1
  obtain ⟨n, k1, k2, k3, _⟩ := F1 hco
  obtain ⟨m1, m2, m3⟩ := zOX k3
  have hfn : zMy r a b = n := by rw [← h2, g5, k2]; omega
  have hz := zJ8 (r := r) (a := a) (b := b)
  have hlet : ∀ j, j ≤ n → x5 (c.getD j default) 1 12 = true := by
   intro j
   induction j with
   | zero => intro _; rw [m1]; exact zAP va
   | succ j ih => intro hj; exact (zIm (ih (by omega)) (m3 j (by omega))).2
  refine .inr ⟨n, c, k1, hfn, h1, g1, k2, m1, m2, fun j hj => ⟨?_, zOs (m3 j hj)⟩, ?_⟩
  ·have := hlet j (by omega)
   unfold x5 at this
   simp only [Bool.and_eq_true, decide_eq_true_eq] at this
   exact this.2.1
  ·rw [← hz, hfn]; omega
 ·refine .inl ⟨h3, h1, ?_⟩
  unfold X4
  rw [if_pos hp]
  have h := h1
  rw [zBS hp] at h
  cases hc : Z6 r a b with
  | none => rfl
  | some c =>
   have : S5 (zMg a) r (zMg b) = some c := hc
   rw [this] at h; cases h
theorem zOS (s : Str) (hs : s.length ≤ 1000) : ∀ r : List Rule, (zN9 r s).length ≤ 2002 * r.length
 | [] => by simp [zN9]
 | x :: r => by
  have ih := zOS s hs r
  have a := zOO s x.src x.dst hs
  have b := zOO s x.dst x.src hs
  have e : zN9 (x :: r) s = (zN8 s x.src x.dst 0 ++ zN8 s x.dst x.src 0) ++ zN9 r s := rfl
  rw [e]
  simp only [List.length_append, List.length_cons]
  omega
def zOA (M : List Str) (y : Str) (m : Nat) (b : Bool) : Prop := b = (M.take m).any (· == y)
theorem zPG (nums : List Int) (h : nums.length ≤ 4294967296) : zMf prog 6 [R0 nums] [] (bV true) [] := by
  obtain ⟨d0, s0, hd0⟩ := zJ5 nums h
  obtain ⟨r, d1, s1, hr, hr4, hd1⟩ := zMF d0 3 hd0 (by omega)
  obtain ⟨l0, d2, s2, v0, hl0, hd2⟩ := zK5 d1 3 3 hd1 (by omega) (by omega)
  obtain ⟨x, d3, s3, vx, hd3⟩ := zK4 d2 3 hd2 (by omega)
  obtain ⟨l, hmap, hll, hvl, -⟩ := zK2 v0 vx
  have htk : List.take (l0.length + 1) (List.map sV l) = List.map sV l := List.take_of_length_le (by simp; omega)
  have sS := zMV
  have hl4 : l.length ≤ 4 := by omega
  clear v0 vx hd0 hd1 hd2 hd3 h
  refine q7 func6 rfl (fun E hE => ?_); simp only [go_sem, ntmps6]
  repeat' (first | (refine Qr rfl ?_; try intro _ hK; try simp only [go_sem, *]) | (refine Qi rfl rfl rfl rfl ?_ ?_ <;> (intro hb; (try intro _ hK); have hc := hb; try simp only [go_sem] at hc; simp only [go_sem, *])) | refine Qh rfl ?_ | refine Qd rfl (by kernel_rfl) ?_ | (refine Qc rfl rfl ?_ ?_ <;> (intro hb; have hc := hb; try simp only [go_sem] at hc)) | refine q6 rfl ?_ | (refine Qb ?_ ?_; focus kernel_rfl) | (refine j0 (s0) ?_; simp only [go_sem, *]) | ((with_reducible apply And.intro); focus omega) | (refine z8 hK ?_; clear hK; simp only [go_sem, *]) | simp only [z7, z6, go_sem, *])
  refine v6 [0] s1 ?_
  simp only [go_sem, *]
  repeat' (first | (refine Qr rfl ?_; try intro _ hK; try simp only [go_sem, *]) | (refine Qi rfl rfl rfl rfl ?_ ?_ <;> (intro hb; (try intro _ hK); have hc := hb; try simp only [go_sem] at hc; simp only [go_sem, *])) | refine Qh rfl ?_ | refine Qd rfl (by kernel_rfl) ?_ | (refine Qc rfl rfl ?_ ?_ <;> (intro hb; have hc := hb; try simp only [go_sem] at hc)) | refine q6 rfl ?_ | (refine Qb ?_ ?_; focus kernel_rfl) | ((with_reducible apply And.intro); focus omega) | (refine z8 hK ?_; clear hK; simp only [go_sem, *]) | simp only [z7, z6, go_sem, *])
  refine v6 [0] s2 ?_
  simp only [go_sem, *]
  repeat' (first | (refine Qr rfl ?_; try intro _ hK; try simp only [go_sem, *]) | (refine Qi rfl rfl rfl rfl ?_ ?_ <;> (intro hb; (try intro _ hK); have hc := hb; try simp only [go_sem] at hc; simp only [go_sem, *])) | refine Qh rfl ?_ | refine Qd rfl (by kernel_rfl) ?_ | (refine Qc rfl rfl ?_ ?_ <;> (intro hb; have hc := hb; try simp only [go_sem] at hc)) | refine q6 rfl ?_ | (refine Qb ?_ ?_; focus kernel_rfl) | ((with_reducible apply And.intro); focus omega) | (refine z8 hK ?_; clear hK; simp only [go_sem, *]) | simp only [z7, z6, go_sem, *])
  refine v6 [0] s3 ?_
  simp only [go_sem, *]
  repeat' (first | (refine Qr rfl ?_; try intro _ hK; try simp only [go_sem, *]) | (refine Qi rfl rfl rfl rfl ?_ ?_ <;> (intro hb; (try intro _ hK); have hc := hb; try simp only [go_sem] at hc; simp only [go_sem, *])) | refine Qh rfl ?_ | refine Qd rfl (by kernel_rfl) ?_ | (refine Qc rfl rfl ?_ ?_ <;> (intro hb; have hc := hb; try simp only [go_sem] at hc)) | refine q6 rfl ?_ | (refine Qb ?_ ?_; focus kernel_rfl) | ((with_reducible apply And.intro); focus omega) | (refine z8 hK ?_; clear hK; simp only [go_sem, *]) | simp only [z7, z6, go_sem, *])
  refine o6 rfl (l.length) (fun i => NoQ i) 201 (fun i => [(6, iV i), (4, w4 r), (5, y4 l)]) (fun i => []) [] [1, 4] (by trivial) ?_; intro i hi hP
  clear hmap htk hll s0 s1 s2 s3
  by_cases hi2 : i < l.length
  · have vi := hvl _ (j3 hi2)
    have ki := zMO vi
    have hwi : IntKind.i64.wrap ((i : Int) + 1) = ((i + 1 : Nat) : Int) := r9 (by omega)
    repeat' (first | (refine Qr rfl ?_; try intro _ hK; try simp only [go_sem, *]) | (refine Qi rfl rfl rfl rfl ?_ ?_ <;> (intro hb; (try intro _ hK); have hc := hb; try simp only [go_sem] at hc; simp only [go_sem, *])) | refine Qh rfl ?_ | refine Qd rfl (by kernel_rfl) ?_ | (refine Qc rfl rfl ?_ ?_ <;> (intro hb; have hc := hb; try simp only [go_sem] at hc)) | refine q6 rfl ?_ | (refine Qb ?_ ?_; focus kernel_rfl) | ((with_reducible apply And.intro); focus omega) | (refine z8 hK ?_; clear hK; simp only [go_sem, *]) | simp only [z7, z6, go_sem, *])
    all_goals first | contradiction | omega | skip
    refine o6 rfl (l.length) (fun k => NoQ k) 201 (fun k => [(7, iV k), (6, iV i), (4, w4 r), (5, y4 l)]) (fun k => []) [] [] (by trivial) ?_; intro k hk hQ
    by_cases hk2 : k < l.length
    · have vk := hvl _ (j3 hk2)
      have kk := zMO vk
      have hwk : IntKind.i64.wrap ((k : Int) + 1) = ((k + 1 : Nat) : Int) := r9 (by omega)
      have u1 := zMW r _ _ hr vi vk
      have u2 := zC9 r (l.getD i default) (l.getD k default) (zCz hr).1 (zCz hr).2
      have u3 := zO4 r _ _ hr vi vk
      rcases zO5 hr vi vk with ⟨h1, h2, h3⟩ | ⟨n, c, hn2, h1, h2, h3, h4⟩
      · rw [h1] at u1 u3
        rw [h2, h3] at u2
        have hv9 : zPJ 9 = 2 := rfl
        rw [hv9] at u3
        clear h1 h2 h3 ki kk
        repeat' (first | (refine Qr rfl ?_; try intro _ hK; try simp only [go_sem, *]) | (refine Qi rfl rfl rfl rfl ?_ ?_ <;> (intro hb; (try intro _ hK); have hc := hb; try simp only [go_sem] at hc; simp only [go_sem, *])) | refine Qh rfl ?_ | refine Qd rfl (by kernel_rfl) ?_ | (refine Qc rfl rfl ?_ ?_ <;> (intro hb; have hc := hb; try simp only [go_sem] at hc)) | refine q6 rfl ?_ | (refine Qb ?_ ?_; focus kernel_rfl) | (refine w5 (u1) ?_ ?_; (focus (simp only [go_sem, *]; done)); simp only [go_sem, *]) | (refine w5 (u2) ?_ ?_; (focus (simp only [go_sem, *]; done)); simp only [go_sem, *]) | (refine w5 (u3) ?_ ?_; (focus (simp only [go_sem, *]; done)); simp only [go_sem, *]) | ((with_reducible apply And.intro); focus omega) | (refine z8 hK ?_; clear hK; simp only [go_sem, *]) | simp only [z7, z6, go_sem, *])
        all_goals first | contradiction | omega | skip
        exact i4 (i' := k + 1) [] [] (by trivial)
      · rw [h1] at u1 u3
        rw [h2, h3] at u2
        obtain ⟨g1, g2, g3, g4, g5⟩ := h4
        clear h1 h2 h3
        have hn3 : ¬ (n : Int) > 2 := by omega
        have hwn : IntKind.i64.wrap ((n : Int) + 1) = ((n + 1 : Nat) : Int) := r9 (by omega)
        have hn1 : n < n + 1 := by omega
        have hn0 : 0 < n + 1 := by omega
        have hver : (n = 0 ∧ zPJ n = 1) ∨ (¬ n = 0 ∧ zPJ n = 3) := by
          rcases (by omega : n = 0 ∨ n = 1 ∨ n = 2) with rfl | rfl | rfl
          · exact .inl ⟨rfl, rfl⟩
          · exact .inr ⟨by decide, rfl⟩
          · exact .inr ⟨by decide, rfl⟩
        clear g5
        have hs1 : ∀ z : Str, (z == z) = true := fun z => by simp
        have hsa := hs1 (zMg (l.getD i default))
        have hsb := hs1 (zMg (l.getD k default))
        clear hs1
        have hbn : (((n + 1 : Nat) : Int) != ((n + 1 : Nat) : Int)) = false := by simp
        generalize zMg (l.getD i default) = ka at *
        generalize zMg (l.getD k default) = kb at *
        rcases hver with ⟨e1, e2⟩ | ⟨e1, e2⟩
        · rw [e2] at u3
          have hbz : ((n : Int) == 0) = true := by rw [e1]; rfl
          clear e1 e2
          repeat' (first | (refine Qr rfl ?_; try intro _ hK; try simp only [go_sem, *]) | (refine Qi rfl rfl rfl rfl ?_ ?_ <;> (intro hb; (try intro _ hK); have hc := hb; try simp only [go_sem] at hc; simp only [go_sem, *])) | refine Qh rfl ?_ | refine Qd rfl (by kernel_rfl) ?_ | (refine Qc rfl rfl ?_ ?_ <;> (intro hb; have hc := hb; try simp only [go_sem] at hc)) | refine q6 rfl ?_ | (refine Qb ?_ ?_; focus kernel_rfl) | (refine w5 (u1) ?_ ?_; (focus (simp only [go_sem, *]; done)); simp only [go_sem, *]) | (refine w5 (u2) ?_ ?_; (focus (simp only [go_sem, *]; done)); simp only [go_sem, *]) | (refine w5 (u3) ?_ ?_; (focus (simp only [go_sem, *]; done)); simp only [go_sem, *]) | (refine w5 (ki) ?_ ?_; (focus (simp only [go_sem, *]; done)); simp only [go_sem, *]) | (refine w5 (kk) ?_ ?_; (focus (simp only [go_sem, *]; done)); simp only [go_sem, *]) | ((with_reducible apply And.intro); focus omega) | (refine z8 hK ?_; clear hK; simp only [go_sem, *]) | simp only [z7, z6, go_sem, *])
          all_goals first | contradiction | omega | skip
          refine o6 rfl (n) (fun j => NoQ j) 201 (fun j => [(18, iV ((j + 1 : Nat) : Int)), (10, y4 c), (8, iV n), (7, iV k), (6, iV i), (4, w4 r), (5, y4 l)]) (fun j => []) [] [] (by trivial) ?_; intro j hj hR
          by_cases hj2 : j < n
          · have hji : ((j + 1 : Nat) : Int) ≤ (n : Int) := by omega
            have hwj0 : IntKind.i64.wrap (((j + 1 : Nat) : Int) - 1) = (j : Int) := by rw [wrap_i64 (by omega) (by omega)]; omega
            have hwj1 : IntKind.i64.wrap (((j + 1 : Nat) : Int) + 1) = ((j + 1 + 1 : Nat) : Int) := r9 (by omega)
            obtain ⟨q1, q2⟩ := g4 j hj2
            have hjn : j < n + 1 := by omega
            have hjn1 : j + 1 < n + 1 := by omega
            have sM := zOd r (c.getD j default) (by omega) (by have := (zC0 hr).1; omega) (fun x hx => by have := (zC0 hr).2 x hx; omega)
            have hMl := zOS (c.getD j default) (by omega) r
            have hMl2 : (zN9 r (c.getD j default)).length ≤ 100000 := by have := (zC0 hr).1; omega
            generalize zN9 r (c.getD j default) = M at *
            generalize hwe : c.getD j default = w at *
            generalize hye : c.getD (j + 1) default = y at *
            have hw12 : ¬ (w.length : Int) > 12 := by omega
            clear hMl
            repeat' (first | (refine Qr rfl ?_; try intro _ hK; try simp only [go_sem, *]) | (refine Qi rfl rfl rfl rfl ?_ ?_ <;> (intro hb; (try intro _ hK); have hc := hb; try simp only [go_sem] at hc; simp only [go_sem, *])) | refine Qh rfl ?_ | refine Qd rfl (by kernel_rfl) ?_ | (refine Qc rfl rfl ?_ ?_ <;> (intro hb; have hc := hb; try simp only [go_sem] at hc)) | refine q6 rfl ?_ | (refine Qb ?_ ?_; focus kernel_rfl) | (refine j0 (sM) ?_; simp only [go_sem, *]) | ((with_reducible apply And.intro); focus omega) | (refine z8 hK ?_; clear hK; simp only [go_sem, *]) | simp only [z7, z6, go_sem, *])
            all_goals first | contradiction | omega | skip
            refine a7 rfl (M.length) (fun m (b : Bool) => zOA M y m b) 201 (fun m b => [(21, iV m), (20, bV b), (19, .own 0 1 0 M.length), (18, iV ((j + 1 : Nat) : Int)), (10, y4 c), (8, iV n), (7, iV k), (6, iV i), (4, w4 r), (5, y4 l)]) (fun m b => [.row 1 (M.map sV)]) [some 0] [] (false) (by exact rfl) ?_; intro m b hm hB
            by_cases hm2 : m < M.length
            · have hmi : (m : Int) < (M.length : Int) := by omega
              have hwm : IntKind.i64.wrap ((m : Int) + 1) = ((m + 1 : Nat) : Int) := r9 (by omega)
              have hB2 : zOA M y (m + 1) (b || (M.getD m default == y)) := by
                unfold zOA at hB ⊢
                rw [zA2 hm2, List.any_append, hB]; simp
              clear hB q2
              cases b
              · have hB2 : zOA M y (m + 1) (M.getD m default == y) := hB2
                generalize hze : M.getD m default = z at *
                generalize hzy : (z == y) = p at *
                repeat' (first | (refine Qr rfl ?_; try intro _ hK; try simp only [go_sem, *]) | (refine Qi rfl rfl rfl rfl ?_ ?_ <;> (intro hb; (try intro _ hK); have hc := hb; try simp only [go_sem] at hc; simp only [go_sem, *])) | refine Qh rfl ?_ | refine Qd rfl (by kernel_rfl) ?_ | (refine Qc rfl rfl ?_ ?_ <;> (intro hb; have hc := hb; try simp only [go_sem] at hc)) | refine q6 rfl ?_ | (refine Qb ?_ ?_; focus kernel_rfl) | ((with_reducible apply And.intro); focus omega) | (refine z8 hK ?_; clear hK; simp only [go_sem, *]) | simp only [z7, z6, go_sem, *])
                all_goals first | contradiction | omega | skip
                exact o7 (i' := m + 1) [some 0] [] (p) (by exact hB2)
              · have hB2 : zOA M y (m + 1) true := hB2
                repeat' (first | (refine Qr rfl ?_; try intro _ hK; try simp only [go_sem, *]) | (refine Qi rfl rfl rfl rfl ?_ ?_ <;> (intro hb; (try intro _ hK); have hc := hb; try simp only [go_sem] at hc; simp only [go_sem, *])) | refine Qh rfl ?_ | refine Qd rfl (by kernel_rfl) ?_ | (refine Qc rfl rfl ?_ ?_ <;> (intro hb; have hc := hb; try simp only [go_sem] at hc)) | refine q6 rfl ?_ | (refine Qb ?_ ?_; focus kernel_rfl) | ((with_reducible apply And.intro); focus omega) | (refine z8 hK ?_; clear hK; simp only [go_sem, *]) | simp only [z7, z6, go_sem, *])
                all_goals first | contradiction | omega | skip
                exact o7 (i' := m + 1) [some 0] [] (true) (by exact hB2)
            · have hbt : b = true := by
                unfold zOA at hB
                rw [hB, List.take_of_length_le (by omega), List.any_eq_true]
                exact ⟨y, q2, by simp⟩
              subst hbt
              have hmi : ¬ (m : Int) < (M.length : Int) := by omega
              clear hB q2
              repeat' (first | (refine Qr rfl ?_; try intro _ hK; try simp only [go_sem, *]) | (refine Qi rfl rfl rfl rfl ?_ ?_ <;> (intro hb; (try intro _ hK); have hc := hb; try simp only [go_sem] at hc; simp only [go_sem, *])) | refine Qh rfl ?_ | refine Qd rfl (by kernel_rfl) ?_ | (refine Qc rfl rfl ?_ ?_ <;> (intro hb; have hc := hb; try simp only [go_sem] at hc)) | refine q6 rfl ?_ | (refine Qb ?_ ?_; focus kernel_rfl) | ((with_reducible apply And.intro); focus omega) | (refine z8 hK ?_; clear hK; simp only [go_sem, *]) | simp only [z7, z6, go_sem, *])
              all_goals first | contradiction | omega | skip
              exact i4 (i' := j + 1) [] [] (by trivial)
          · have hji : ¬ ((j + 1 : Nat) : Int) ≤ (n : Int) := by omega
            repeat' (first | (refine Qr rfl ?_; try intro _ hK; try simp only [go_sem, *]) | (refine Qi rfl rfl rfl rfl ?_ ?_ <;> (intro hb; (try intro _ hK); have hc := hb; try simp only [go_sem] at hc; simp only [go_sem, *])) | refine Qh rfl ?_ | refine Qd rfl (by kernel_rfl) ?_ | (refine Qc rfl rfl ?_ ?_ <;> (intro hb; have hc := hb; try simp only [go_sem] at hc)) | refine q6 rfl ?_ | (refine Qb ?_ ?_; focus kernel_rfl) | ((with_reducible apply And.intro); focus omega) | (refine z8 hK ?_; clear hK; simp only [go_sem, *]) | simp only [z7, z6, go_sem, *])
            all_goals first | contradiction | omega | skip
            exact i4 (i' := k + 1) [] [] (by trivial)
        · rw [e2] at u3
          have hbz : ((n : Int) == 0) = false := by rw [beq_eq_false_iff_ne]; omega
          clear e1 e2
          repeat' (first | (refine Qr rfl ?_; try intro _ hK; try simp only [go_sem, *]) | (refine Qi rfl rfl rfl rfl ?_ ?_ <;> (intro hb; (try intro _ hK); have hc := hb; try simp only [go_sem] at hc; simp only [go_sem, *])) | refine Qh rfl ?_ | refine Qd rfl (by kernel_rfl) ?_ | (refine Qc rfl rfl ?_ ?_ <;> (intro hb; have hc := hb; try simp only [go_sem] at hc)) | refine q6 rfl ?_ | (refine Qb ?_ ?_; focus kernel_rfl) | (refine w5 (u1) ?_ ?_; (focus (simp only [go_sem, *]; done)); simp only [go_sem, *]) | (refine w5 (u2) ?_ ?_; (focus (simp only [go_sem, *]; done)); simp only [go_sem, *]) | (refine w5 (u3) ?_ ?_; (focus (simp only [go_sem, *]; done)); simp only [go_sem, *]) | (refine w5 (ki) ?_ ?_; (focus (simp only [go_sem, *]; done)); simp only [go_sem, *]) | (refine w5 (kk) ?_ ?_; (focus (simp only [go_sem, *]; done)); simp only [go_sem, *]) | ((with_reducible apply And.intro); focus omega) | (refine z8 hK ?_; clear hK; simp only [go_sem, *]) | simp only [z7, z6, go_sem, *])
          all_goals first | contradiction | omega | skip
          refine o6 rfl (n) (fun j => NoQ j) 201 (fun j => [(18, iV ((j + 1 : Nat) : Int)), (10, y4 c), (8, iV n), (7, iV k), (6, iV i), (4, w4 r), (5, y4 l)]) (fun j => []) [] [] (by trivial) ?_; intro j hj hR
          by_cases hj2 : j < n
          · have hji : ((j + 1 : Nat) : Int) ≤ (n : Int) := by omega
            have hwj0 : IntKind.i64.wrap (((j + 1 : Nat) : Int) - 1) = (j : Int) := by rw [wrap_i64 (by omega) (by omega)]; omega
            have hwj1 : IntKind.i64.wrap (((j + 1 : Nat) : Int) + 1) = ((j + 1 + 1 : Nat) : Int) := r9 (by omega)
            obtain ⟨q1, q2⟩ := g4 j hj2
            have hjn : j < n + 1 := by omega
            have hjn1 : j + 1 < n + 1 := by omega
            have sM := zOd r (c.getD j default) (by omega) (by have := (zC0 hr).1; omega) (fun x hx => by have := (zC0 hr).2 x hx; omega)
            have hMl := zOS (c.getD j default) (by omega) r
            have hMl2 : (zN9 r (c.getD j default)).length ≤ 100000 := by have := (zC0 hr).1; omega
            generalize zN9 r (c.getD j default) = M at *
            generalize hwe : c.getD j default = w at *
            generalize hye : c.getD (j + 1) default = y at *
            have hw12 : ¬ (w.length : Int) > 12 := by omega
            clear hMl
            repeat' (first | (refine Qr rfl ?_; try intro _ hK; try simp only [go_sem, *]) | (refine Qi rfl rfl rfl rfl ?_ ?_ <;> (intro hb; (try intro _ hK); have hc := hb; try simp only [go_sem] at hc; simp only [go_sem, *])) | refine Qh rfl ?_ | refine Qd rfl (by kernel_rfl) ?_ | (refine Qc rfl rfl ?_ ?_ <;> (intro hb; have hc := hb; try simp only [go_sem] at hc)) | refine q6 rfl ?_ | (refine Qb ?_ ?_; focus kernel_rfl) | (refine j0 (sM) ?_; simp only [go_sem, *]) | ((with_reducible apply And.intro); focus omega) | (refine z8 hK ?_; clear hK; simp only [go_sem, *]) | simp only [z7, z6, go_sem, *])
            all_goals first | contradiction | omega | skip
            refine a7 rfl (M.length) (fun m (b : Bool) => zOA M y m b) 201 (fun m b => [(21, iV m), (20, bV b), (19, .own 0 1 0 M.length), (18, iV ((j + 1 : Nat) : Int)), (10, y4 c), (8, iV n), (7, iV k), (6, iV i), (4, w4 r), (5, y4 l)]) (fun m b => [.row 1 (M.map sV)]) [some 0] [] (false) (by exact rfl) ?_; intro m b hm hB
            by_cases hm2 : m < M.length
            · have hmi : (m : Int) < (M.length : Int) := by omega
              have hwm : IntKind.i64.wrap ((m : Int) + 1) = ((m + 1 : Nat) : Int) := r9 (by omega)
              have hB2 : zOA M y (m + 1) (b || (M.getD m default == y)) := by
                unfold zOA at hB ⊢
                rw [zA2 hm2, List.any_append, hB]; simp
              clear hB q2
              cases b
              · have hB2 : zOA M y (m + 1) (M.getD m default == y) := hB2
                generalize hze : M.getD m default = z at *
                generalize hzy : (z == y) = p at *
                repeat' (first | (refine Qr rfl ?_; try intro _ hK; try simp only [go_sem, *]) | (refine Qi rfl rfl rfl rfl ?_ ?_ <;> (intro hb; (try intro _ hK); have hc := hb; try simp only [go_sem] at hc; simp only [go_sem, *])) | refine Qh rfl ?_ | refine Qd rfl (by kernel_rfl) ?_ | (refine Qc rfl rfl ?_ ?_ <;> (intro hb; have hc := hb; try simp only [go_sem] at hc)) | refine q6 rfl ?_ | (refine Qb ?_ ?_; focus kernel_rfl) | ((with_reducible apply And.intro); focus omega) | (refine z8 hK ?_; clear hK; simp only [go_sem, *]) | simp only [z7, z6, go_sem, *])
                all_goals first | contradiction | omega | skip
                exact o7 (i' := m + 1) [some 0] [] (p) (by exact hB2)
              · have hB2 : zOA M y (m + 1) true := hB2
                repeat' (first | (refine Qr rfl ?_; try intro _ hK; try simp only [go_sem, *]) | (refine Qi rfl rfl rfl rfl ?_ ?_ <;> (intro hb; (try intro _ hK); have hc := hb; try simp only [go_sem] at hc; simp only [go_sem, *])) | refine Qh rfl ?_ | refine Qd rfl (by kernel_rfl) ?_ | (refine Qc rfl rfl ?_ ?_ <;> (intro hb; have hc := hb; try simp only [go_sem] at hc)) | refine q6 rfl ?_ | (refine Qb ?_ ?_; focus kernel_rfl) | ((with_reducible apply And.intro); focus omega) | (refine z8 hK ?_; clear hK; simp only [go_sem, *]) | simp only [z7, z6, go_sem, *])
                all_goals first | contradiction | omega | skip
                exact o7 (i' := m + 1) [some 0] [] (true) (by exact hB2)
            · have hbt : b = true := by
                unfold zOA at hB
                rw [hB, List.take_of_length_le (by omega), List.any_eq_true]
                exact ⟨y, q2, by simp⟩
              subst hbt
              have hmi : ¬ (m : Int) < (M.length : Int) := by omega
              clear hB q2
              repeat' (first | (refine Qr rfl ?_; try intro _ hK; try simp only [go_sem, *]) | (refine Qi rfl rfl rfl rfl ?_ ?_ <;> (intro hb; (try intro _ hK); have hc := hb; try simp only [go_sem] at hc; simp only [go_sem, *])) | refine Qh rfl ?_ | refine Qd rfl (by kernel_rfl) ?_ | (refine Qc rfl rfl ?_ ?_ <;> (intro hb; have hc := hb; try simp only [go_sem] at hc)) | refine q6 rfl ?_ | (refine Qb ?_ ?_; focus kernel_rfl) | ((with_reducible apply And.intro); focus omega) | (refine z8 hK ?_; clear hK; simp only [go_sem, *]) | simp only [z7, z6, go_sem, *])
              all_goals first | contradiction | omega | skip
              exact i4 (i' := j + 1) [] [] (by trivial)
          · have hji : ¬ ((j + 1 : Nat) : Int) ≤ (n : Int) := by omega
            repeat' (first | (refine Qr rfl ?_; try intro _ hK; try simp only [go_sem, *]) | (refine Qi rfl rfl rfl rfl ?_ ?_ <;> (intro hb; (try intro _ hK); have hc := hb; try simp only [go_sem] at hc; simp only [go_sem, *])) | refine Qh rfl ?_ | refine Qd rfl (by kernel_rfl) ?_ | (refine Qc rfl rfl ?_ ?_ <;> (intro hb; have hc := hb; try simp only [go_sem] at hc)) | refine q6 rfl ?_ | (refine Qb ?_ ?_; focus kernel_rfl) | ((with_reducible apply And.intro); focus omega) | (refine z8 hK ?_; clear hK; simp only [go_sem, *]) | simp only [z7, z6, go_sem, *])
            all_goals first | contradiction | omega | skip
            exact i4 (i' := k + 1) [] [] (by trivial)
    · repeat' (first | (refine Qr rfl ?_; try intro _ hK; try simp only [go_sem, *]) | (refine Qi rfl rfl rfl rfl ?_ ?_ <;> (intro hb; (try intro _ hK); have hc := hb; try simp only [go_sem] at hc; simp only [go_sem, *])) | refine Qh rfl ?_ | refine Qd rfl (by kernel_rfl) ?_ | (refine Qc rfl rfl ?_ ?_ <;> (intro hb; have hc := hb; try simp only [go_sem] at hc)) | refine q6 rfl ?_ | (refine Qb ?_ ?_; focus kernel_rfl) | ((with_reducible apply And.intro); focus omega) | (refine z8 hK ?_; clear hK; simp only [go_sem, *]) | simp only [z7, z6, go_sem, *])
      all_goals first | contradiction | omega | skip
      exact i4 (i' := i + 1) [] [] (by trivial)
  · repeat' (first | (refine Qr rfl ?_; try intro _ hK; try simp only [go_sem, *]) | (refine Qi rfl rfl rfl rfl ?_ ?_ <;> (intro hb; (try intro _ hK); have hc := hb; try simp only [go_sem] at hc; simp only [go_sem, *])) | refine Qh rfl ?_ | refine Qd rfl (by kernel_rfl) ?_ | (refine Qc rfl rfl ?_ ?_ <;> (intro hb; have hc := hb; try simp only [go_sem] at hc)) | refine q6 rfl ?_ | (refine Qb ?_ ?_; focus kernel_rfl) | (refine q8 (sS) ?_; simp only [go_sem, *]) | ((with_reducible apply And.intro); focus omega) | (refine z8 hK ?_; clear hK; simp only [go_sem, *]) | simp only [z7, z6, go_sem, *])
    all_goals first | contradiction | omega | skip
    (refine ⟨[_], [], [], ⟨rfl, trivial⟩, ?_⟩; simp only [go_sem, *])
end Go.Abs

