/-
  WHAT THE PROOF STANDS ON, PART 4: contracts of the program's functions and the logic that they are proved in. No condition.
-/
import Derived.Test.YteehcinnfiaklaaGreatDoorQ3
set_option maxRecDepth 100000
set_option maxHeartbeats 4000000
set_option linter.unusedVariables false
set_option linter.unusedSimpArgs false
set_option linter.unusedSectionVars false
namespace Go.Abs
open Go Go.Proofs Tryz
attribute [local irreducible] y3 Hold y7
theorem zAM {r : List Rule} (h : u7 r = 0) : r.length ≤ 4 ∧ ∀ x, x ∈ r → x.src.length ≤ 2 ∧ x.dst.length ≤ 2 := by
 unfold u7 at h
 by_cases h4 : 4 < r.length
 ·rw [if_pos h4] at h; cases h
 ·rw [if_neg h4] at h
  by_cases ha : r.all Rule.ok = true
  ·refine ⟨by omega, fun x hx => ?_⟩
   have := List.all_eq_true.1 ha x hx
   unfold Rule.ok x7 at this
   simp only [Bool.and_eq_true, decide_eq_true_eq] at this
   exact ⟨this.1.2.1, this.2.1.2.1⟩
  ·rw [if_neg ha] at h; cases h
theorem zGE {a b : Str} (h : t6 [a, b] = 0) : ValidN a ∧ ValidN b := by
 rw [zAH] at h
 by_cases q : x6 a = 0
 ·rw [if_pos q] at h; exact ⟨checkN_zero.1 q, checkN_zero.1 h⟩
 ·rw [if_neg q] at h; exact absurd h q
theorem zDi {α : Type} {f : Nat → Option α} {i : Nat} (h : i < 3) : p6 f (List.range' i (3 - i)) = match f i with
  | some b => some b
  | none => p6 f (List.range' (i + 1) (3 - (i + 1))) := by
 obtain rfl | rfl | rfl : i = 0 ∨ i = 1 ∨ i = 2 := by omega
 all_goals rfl
def U3 (k : Str) (l : List Rule) (to : Str) : Option (List Str) := p6 (fun n => e7 l n k to) [0, 1, 2]
theorem zHQ (k : Str) (l : List Rule) (to : Str) (hk1 : x7 k 1 12 = true) (hl : l.length ≤ 1000) (hr : ∀ r, r ∈ l → r.src.length ≤ 1000 ∧ r.dst.length ≤ 1000) :
  zLn prog 88 [sV k, x4 l, sV to] [] (.tup [r7 (U3 k l to), bV (U3 k l to).isSome]) [] := by
 have hca : t8 prog 126 = true := by kernel_rfl
 obtain ⟨T, hT⟩ : ∃ T, U3 k l to = T := ⟨_, rfl⟩
 rw [hT]
 have h0 : p6 (fun n => e7 l n k to) (List.range' 0 (3 - 0)) = T := hT
 clear hT
 have s1 := zHR k l to
 have s2 := fun n hn => zHV k l to n hn hk1 hl hr
 clear hk1 hl hr
 refine q7 func88 rfl (fun E hE => ?_); simp only [go_sem, ntmps88]
 repeat' (first | (refine Qr rfl ?_; try intro _ hK; try simp only [go_sem, *]) | refine Qh rfl ?_ | (refine Qc rfl rfl ?_ ?_ <;> (intro hb; have hc := hb; try simp only [go_sem] at hc)) | refine q6 rfl ?_ | ((with_reducible apply And.intro); focus omega) | (refine z8 hK ?_; clear hK; simp only [go_sem, *]) | simp only [z7, z6, go_sem, *])
 refine p8 rfl (3) (fun i => p6 (fun n => e7 l n k to) (List.range' i (3 - i)) = T) 26 (fun i => [(11, iV i), (0, sV k), (1, x4 l), (2, sV to)]) (fun i => []) [] [] (by exact h0) ?_; intro i hi hP
 clear h0
 by_cases hi2 : i < 3
 ·rw [zDi hi2] at hP
  have s1 := s1 (i : Int)
  have s2 := s2 i (by omega)
  have hi3 : (i : Int) < 3 := by omega
  have hw : IntKind.i64.wrap ((i : Int) + 1) = ((i + 1 : Nat) : Int) := r6 (by omega)
  cases hc : e7 l i k to with
  | some c =>
   rw [hc] at hP s2
   have hP : some c = T := hP
   subst hP
   clear hc
   repeat' (first | (refine Qr rfl ?_; try intro _ hK; try simp only [go_sem, *]) | refine Qh rfl ?_ | (refine Qc rfl rfl ?_ ?_ <;> (intro hb; have hc := hb; try simp only [go_sem] at hc)) | refine q6 rfl ?_ | ((with_reducible apply And.intro); focus omega) | (refine z8 hK ?_; clear hK; simp only [go_sem, *]) | simp only [z7, z6, go_sem, *])
   refine o9 s1 ?_ (hu := by (intro j hj; simp only [List.length_cons, List.length_nil] at hj; (obtain rfl | rfl | rfl | rfl : j = 0 ∨ j = 1 ∨ j = 2 ∨ j = 3 := by omega) <;> simp [go_sem]))
   simp only [go_sem, *]
   repeat' (first | (refine Qr rfl ?_; try intro _ hK; try simp only [go_sem, *]) | refine Qh rfl ?_ | (refine Qc rfl rfl ?_ ?_ <;> (intro hb; have hc := hb; try simp only [go_sem] at hc)) | refine q6 rfl ?_ | ((with_reducible apply And.intro); focus omega) | (refine z8 hK ?_; clear hK; simp only [go_sem, *]) | simp only [z7, z6, go_sem, *])
   refine w5 [0, 1, 2, 3] s2 ?_
   simp only [go_sem, *]
   repeat' (first | (refine Qr rfl ?_; try intro _ hK; try simp only [go_sem, *]) | refine Qh rfl ?_ | (refine Qc rfl rfl ?_ ?_ <;> (intro hb; have hc := hb; try simp only [go_sem] at hc)) | refine q6 rfl ?_ | ((with_reducible apply And.intro); focus omega) | (refine z8 hK ?_; clear hK; simp only [go_sem, *]) | simp only [z7, z6, go_sem, *])
   all_goals try contradiction
   (refine ⟨[_, _], [], [], ⟨rfl, rfl, trivial⟩, ?_⟩; simp only [go_sem, *])
  | none =>
   rw [hc] at hP s2
   have hP : p6 (fun n => e7 l n k to) (List.range' (i + 1) (3 - (i + 1))) = T := hP
   clear hc
   repeat' (first | (refine Qr rfl ?_; try intro _ hK; try simp only [go_sem, *]) | refine Qh rfl ?_ | (refine Qc rfl rfl ?_ ?_ <;> (intro hb; have hc := hb; try simp only [go_sem] at hc)) | refine q6 rfl ?_ | ((with_reducible apply And.intro); focus omega) | (refine z8 hK ?_; clear hK; simp only [go_sem, *]) | simp only [z7, z6, go_sem, *])
   refine o9 s1 ?_ (hu := by (intro j hj; simp only [List.length_cons, List.length_nil] at hj; (obtain rfl | rfl | rfl | rfl : j = 0 ∨ j = 1 ∨ j = 2 ∨ j = 3 := by omega) <;> simp [go_sem]))
   simp only [go_sem, *]
   repeat' (first | (refine Qr rfl ?_; try intro _ hK; try simp only [go_sem, *]) | refine Qh rfl ?_ | (refine Qc rfl rfl ?_ ?_ <;> (intro hb; have hc := hb; try simp only [go_sem] at hc)) | refine q6 rfl ?_ | ((with_reducible apply And.intro); focus omega) | (refine z8 hK ?_; clear hK; simp only [go_sem, *]) | simp only [z7, z6, go_sem, *])
   refine w5 [0, 1, 2, 3] s2 ?_
   simp only [go_sem, *]
   repeat' (first | (refine Qr rfl ?_; try intro _ hK; try simp only [go_sem, *]) | refine Qh rfl ?_ | (refine Qc rfl rfl ?_ ?_ <;> (intro hb; have hc := hb; try simp only [go_sem] at hc)) | refine q6 rfl ?_ | ((with_reducible apply And.intro); focus omega) | (refine z8 hK ?_; clear hK; simp only [go_sem, *]) | simp only [z7, z6, go_sem, *])
   all_goals try contradiction
   exact p9 (i' := i + 1) [] [] (by exact hP)
 ·have e : 3 - i = 0 := by omega
  rw [e] at hP
  have hP : none = T := hP
  subst hP
  have hi3 : ¬ (i : Int) < 3 := by omega
  clear s1 s2
  repeat' (first | (refine Qr rfl ?_; try intro _ hK; try simp only [go_sem, *]) | refine Qh rfl ?_ | (refine Qc rfl rfl ?_ ?_ <;> (intro hb; have hc := hb; try simp only [go_sem] at hc)) | refine q6 rfl ?_ | ((with_reducible apply And.intro); focus omega) | (refine z8 hK ?_; clear hK; simp only [go_sem, *]) | simp only [z7, z6, go_sem, *])
  all_goals try contradiction
  (refine ⟨[_, _], [], [], ⟨rfl, rfl, trivial⟩, ?_⟩; simp only [go_sem, *])
  all_goals rfl
def Y0 (r : List Rule) (a b : Str) : Option (List Str) := if j3 r a b = 0 then a7 r a b else none
theorem zAI {r : List Rule} {a b : Str} (q : u7 r = 0) : j3 r a b = t6 [a, b] := by
 unfold j3; rw [if_pos q, zAH]
theorem zDd {r : List Rule} {a b : Str} (h : j3 r a b = 0) : Y0 r a b = U3 (zLm a) r (zLm b) := if_pos h
theorem zAz {r : List Rule} {a b : Str} (h : j3 r a b = 0) : u0 r a b = if (U3 (zLm a) r (zLm b)).isSome = true then 0 else 11 := if_pos h
theorem zDe {r : List Rule} {a b : Str} (h : u0 r a b = 0) : ∃ c, Y0 r a b = some c ∧ M6 r a b = c ∧ 1 ≤ c.length ∧ c.length ≤ 3 ∧ f6 r a b = (c.length : Int) - 1 := by
 by_cases hp : j3 r a b = 0
 ·have h2 := h
  rw [zAz hp] at h2
  cases hc : a7 r a b with
  | none =>
   have : U3 (zLm a) r (zLm b) = none := hc
   rw [this] at h2; cases h2
  | some c =>
   have hv : M6 r a b = c := by unfold M6; rw [if_pos hp, hc]; rfl
   obtain ⟨n, h1, h3, _⟩ := I9 hc
   refine ⟨c, by rw [Y0, if_pos hp, hc], hv, by omega, by omega, ?_⟩
   unfold f6; rw [if_pos h, hv]
 ·unfold u0 at h; rw [if_neg hp] at h; exact absurd h hp
theorem zCX (r : List Rule) (a b : Str) (hl : r.length ≤ 4294967296) (hr : ∀ x, x ∈ r → x.src.length ≤ 4294967296 ∧ x.dst.length ≤ 4294967296) :
  zLn prog 38 [x4 r, sV a, sV b] [] (.tup [r7 (Y0 r a b), iV (u0 r a b)]) [] := by
 have s1 := zCl r hl hr
 have sc : zLn prog 87 [.list [sV a, sV b]] [] (iV (t6 [a, b])) [] := zAX [a, b] (by simp)
 by_cases q1 : u7 r = 0
 ·rw [q1] at s1
  by_cases q2 : t6 [a, b] = 0
  ·obtain ⟨va, vb⟩ := zGE q2
   have hp : j3 r a b = 0 := by rw [zAI q1, q2]
   obtain ⟨h4, h5⟩ := zAM q1
   have s2 := V8 a va.form (by have := va.len; omega)
   have s3 := V8 b vb.form (by have := vb.len; omega)
   have s4 := zHQ (zLm a) r (zLm b) (H9 va) (by omega) (fun x hx => by have := h5 x hx; omega)
   rw [zDd hp, zAz hp]
   rw [q2] at sc
   generalize U3 (zLm a) r (zLm b) = o at *
   generalize zLm a = ka at *
   generalize zLm b = kb at *
   clear q1 q2 va vb hp h4 h5 hl hr
   cases o with
   | none =>
    simp only [Option.isSome_none, Bool.false_eq_true, if_false] at s4 ⊢
    refine q7 func38 rfl (fun E hE => ?_); simp only [go_sem, ntmps38]
    repeat' (first | (refine Qr rfl ?_; try intro _ hK; try simp only [go_sem, *]) | refine Qh rfl ?_ | (refine Qc rfl rfl ?_ ?_ <;> (intro hb; have hc := hb; try simp only [go_sem] at hc)) | refine q6 rfl ?_ | (refine q9 (s1) ?_; simp only [go_sem, *]) | ((with_reducible apply And.intro); focus omega) | (refine z8 hK ?_; clear hK; simp only [go_sem, *]) | simp only [z7, z6, go_sem, *])
    all_goals try contradiction
    (refine X9 [0] (sc) (by simp only [go_sem, *]) (.raw _) ?_; simp only [go_sem, *])
    repeat' (first | (refine Qr rfl ?_; try intro _ hK; try simp only [go_sem, *]) | refine Qh rfl ?_ | (refine Qc rfl rfl ?_ ?_ <;> (intro hb; have hc := hb; try simp only [go_sem] at hc)) | refine q6 rfl ?_ | (refine y8 (s2) ?_ ?_; (focus (simp only [go_sem, *]; done)); simp only [go_sem, *]) | (refine y8 (s3) ?_ ?_; (focus (simp only [go_sem, *]; done)); simp only [go_sem, *]) | (refine q9 (s4) ?_; simp only [go_sem, *]) | ((with_reducible apply And.intro); focus omega) | (refine z8 hK ?_; clear hK; simp only [go_sem, *]) | simp only [z7, z6, go_sem, *])
    all_goals try contradiction
    (refine ⟨[_, _], [], [], ⟨rfl, rfl, trivial⟩, ?_⟩; simp only [go_sem, *])
   | some c =>
    simp only [Option.isSome_some, if_true] at s4 ⊢
    refine q7 func38 rfl (fun E hE => ?_); simp only [go_sem, ntmps38]
    repeat' (first | (refine Qr rfl ?_; try intro _ hK; try simp only [go_sem, *]) | refine Qh rfl ?_ | (refine Qc rfl rfl ?_ ?_ <;> (intro hb; have hc := hb; try simp only [go_sem] at hc)) | refine q6 rfl ?_ | (refine q9 (s1) ?_; simp only [go_sem, *]) | ((with_reducible apply And.intro); focus omega) | (refine z8 hK ?_; clear hK; simp only [go_sem, *]) | simp only [z7, z6, go_sem, *])
    all_goals try contradiction
    (refine X9 [0] (sc) (by simp only [go_sem, *]) (.raw _) ?_; simp only [go_sem, *])
    repeat' (first | (refine Qr rfl ?_; try intro _ hK; try simp only [go_sem, *]) | refine Qh rfl ?_ | (refine Qc rfl rfl ?_ ?_ <;> (intro hb; have hc := hb; try simp only [go_sem] at hc)) | refine q6 rfl ?_ | (refine y8 (s2) ?_ ?_; (focus (simp only [go_sem, *]; done)); simp only [go_sem, *]) | (refine y8 (s3) ?_ ?_; (focus (simp only [go_sem, *]; done)); simp only [go_sem, *]) | (refine q9 (s4) ?_; simp only [go_sem, *]) | ((with_reducible apply And.intro); focus omega) | (refine z8 hK ?_; clear hK; simp only [go_sem, *]) | simp only [z7, z6, go_sem, *])
    all_goals try contradiction
    (refine ⟨[_, _], [], [], ⟨rfl, rfl, trivial⟩, ?_⟩; simp only [go_sem, *])
  ·have hp : ¬ j3 r a b = 0 := by rw [zAI q1]; exact q2
   have e1 : Y0 r a b = none := if_neg hp
   have e2 : u0 r a b = t6 [a, b] := by unfold u0; rw [if_neg hp, zAI q1]
   rw [e1, e2]
   clear e1 e2 hp q1 hl hr
   generalize t6 [a, b] = e at *
   refine q7 func38 rfl (fun E hE => ?_); simp only [go_sem, ntmps38]
   repeat' (first | (refine Qr rfl ?_; try intro _ hK; try simp only [go_sem, *]) | refine Qh rfl ?_ | (refine Qc rfl rfl ?_ ?_ <;> (intro hb; have hc := hb; try simp only [go_sem] at hc)) | refine q6 rfl ?_ | (refine q9 (s1) ?_; simp only [go_sem, *]) | ((with_reducible apply And.intro); focus omega) | (refine z8 hK ?_; clear hK; simp only [go_sem, *]) | simp only [z7, z6, go_sem, *])
   all_goals try contradiction
   (refine X9 [0] (sc) (by simp only [go_sem, *]) (.raw _) ?_; simp only [go_sem, *])
   repeat' (first | (refine Qr rfl ?_; try intro _ hK; try simp only [go_sem, *]) | refine Qh rfl ?_ | (refine Qc rfl rfl ?_ ?_ <;> (intro hb; have hc := hb; try simp only [go_sem] at hc)) | refine q6 rfl ?_ | ((with_reducible apply And.intro); focus omega) | (refine z8 hK ?_; clear hK; simp only [go_sem, *]) | simp only [z7, z6, go_sem, *])
   all_goals try contradiction
   (refine ⟨[_, _], [], [], ⟨rfl, rfl, trivial⟩, ?_⟩; simp only [go_sem, *])
 ·have hp : j3 r a b = u7 r := by unfold j3; rw [if_neg q1]
  have e1 : Y0 r a b = none := if_neg (by rw [hp]; exact q1)
  have e2 : u0 r a b = u7 r := by unfold u0; rw [hp, if_neg q1]
  rw [e1, e2]
  clear e1 e2 hp hl hr sc
  generalize u7 r = e at *
  refine q7 func38 rfl (fun E hE => ?_); simp only [go_sem, ntmps38]
  repeat' (first | (refine Qr rfl ?_; try intro _ hK; try simp only [go_sem, *]) | refine Qh rfl ?_ | (refine Qc rfl rfl ?_ ?_ <;> (intro hb; have hc := hb; try simp only [go_sem] at hc)) | refine q6 rfl ?_ | (refine q9 (s1) ?_; simp only [go_sem, *]) | ((with_reducible apply And.intro); focus omega) | (refine z8 hK ?_; clear hK; simp only [go_sem, *]) | simp only [z7, z6, go_sem, *])
  all_goals try contradiction
  (refine ⟨[_, _], [], [], ⟨rfl, rfl, trivial⟩, ?_⟩; simp only [go_sem, *])
theorem zAW (r : List Rule) (a b : Str) (hl : r.length ≤ 4294967296) (hr : ∀ x, x ∈ r → x.src.length ≤ 4294967296 ∧ x.dst.length ≤ 4294967296) :
  zLn prog 49 [x4 r, sV a, sV b] [] (.tup [iV (f6 r a b), iV (u0 r a b)]) [] := by
 have sC := zCX r a b hl hr
 clear hl hr
 by_cases q : u0 r a b = 0
 ·obtain ⟨c, h1, _, h2, h3, h4⟩ := zDe q
  rw [h4, q]
  rw [h1, q] at sC
  have hw : IntKind.i64.wrap ((c.length : Int) - 1) = (c.length : Int) - 1 := wrap_i64 (by omega) (by omega)
  clear q h1 h4
  refine q7 func49 rfl (fun E hE => ?_); simp only [go_sem, ntmps49]
  repeat' (first | (refine Qr rfl ?_; try intro _ hK; try simp only [go_sem, *]) | refine Qh rfl ?_ | (refine Qc rfl rfl ?_ ?_ <;> (intro hb; have hc := hb; try simp only [go_sem] at hc)) | refine q6 rfl ?_ | (refine q9 (sC) ?_; simp only [go_sem, *]) | ((with_reducible apply And.intro); focus omega) | (refine z8 hK ?_; clear hK; simp only [go_sem, *]) | simp only [z7, z6, go_sem, *])
  all_goals try contradiction
  (refine ⟨[_, _], [], [], ⟨rfl, rfl, trivial⟩, ?_⟩; simp only [go_sem, *])
 ·have e : f6 r a b = 0 := by unfold f6; rw [if_neg q]
  rw [e]
  clear e
  generalize Y0 r a b = o at *
  generalize u0 r a b = e at *
  refine q7 func49 rfl (fun E hE => ?_); simp only [go_sem, ntmps49]
  repeat' (first | (refine Qr rfl ?_; try intro _ hK; try simp only [go_sem, *]) | refine Qh rfl ?_ | (refine Qc rfl rfl ?_ ?_ <;> (intro hb; have hc := hb; try simp only [go_sem] at hc)) | refine q6 rfl ?_ | (refine q9 (sC) ?_; simp only [go_sem, *]) | ((with_reducible apply And.intro); focus omega) | (refine z8 hK ?_; clear hK; simp only [go_sem, *]) | simp only [z7, z6, go_sem, *])
  all_goals try contradiction
  (refine ⟨[_, _], [], [], ⟨rfl, rfl, trivial⟩, ?_⟩; simp only [go_sem, *])
theorem zLa (r : List Rule) (a b : Str) (hl : r.length ≤ 4294967296) (hr : ∀ x, x ∈ r → x.src.length ≤ 4294967296 ∧ x.dst.length ≤ 4294967296) :
  zLn prog 39 [x4 r, sV a, sV b] [] (.tup [iV (zC3 r a b), iV (zC2 r a b)]) [] := by
 have sU := zAW r a b hl hr
 clear hl hr
 unfold zC3 zC2
 generalize f6 r a b = n at *
 generalize u0 r a b = e at *
 refine q7 func39 rfl (fun E hE => ?_); simp only [go_sem, ntmps39]
 repeat' (first | (refine Qr rfl ?_; try intro _ hK; try simp only [go_sem, *]) | refine Qh rfl ?_ | (refine Qc rfl rfl ?_ ?_ <;> (intro hb; have hc := hb; try simp only [go_sem] at hc)) | refine q6 rfl ?_ | (refine q9 (sU) ?_; simp only [go_sem, *]) | ((with_reducible apply And.intro); focus omega) | (refine z8 hK ?_; clear hK; simp only [go_sem, *]) | simp only [z7, z6, go_sem, *])
 all_goals (refine ⟨[_, _], [], [], ⟨rfl, rfl, trivial⟩, ?_⟩; simp only [go_sem, *])
 all_goals simp_all
end Go.Abs

namespace Go.Abs
open Go Go.Proofs Tryz
attribute [local irreducible] y3 Hold y7
def i7 (r : List Rule) (s : Str) (l : List Str) (m : Nat) : List Int := (List.range' m (3 - m)).flatMap fun (n : Nat) => i8 r s l n 0
theorem zFx (r : List Rule) (s : Str) (l : List Str) : i7 r s l 0 = P8 r s l := by
 have e : List.range' 0 (3 - 0) = [0, 1, 2] := rfl
 unfold i7 P8
 rw [e]
 simp
theorem zFw {r : List Rule} {s : Str} {l : List Str} {m : Nat} (h : m < 3) : i7 r s l m = i8 r s l m 0 ++ i7 r s l (m + 1) := by
 unfold i7
 rw [show 3 - m = (3 - (m + 1)) + 1 by omega, List.range'_succ, List.flatMap_cons]
theorem zFz {r : List Rule} {s : Str} {l : List Str} {n : Int} {i : Nat} (h : i < l.length) : i8 r s l n i = (if u0 r s (l.getD i default) = 0 ∧ f6 r s (l.getD i default) = n then [(i : Int)] else []) ++ i8 r s l n (i + 1) := by
 unfold i8
 rw [show l.length - i = (l.length - (i + 1)) + 1 by omega, List.range'_succ, List.flatMap_cons]
 rfl
theorem zFy {r : List Rule} {s : Str} {l : List Str} {n : Int} {i : Nat} (h : l.length ≤ i) : i8 r s l n i = [] := by
 unfold i8
 rw [show l.length - i = 0 by omega]; rfl
theorem zLY (r : List Rule) (s : Str) (l : List Str) (q : zCA r s l = 0) :
    zLn prog 47 [x4 r, sV s, y4 l] [] (.tup [.own 0 1 0 (P8 r s l).length, iV 0]) [.row 1 ((P8 r s l).map iV)] := by
  obtain ⟨q1, q2, q3⟩ : u7 r = 0 ∧ x6 s = 0 ∧ r9 l = 0 := by
    unfold zCA at q
    by_cases a : u7 r = 0
    · rw [if_pos a] at q
      by_cases b : x6 s = 0
      · rw [if_pos b] at q; exact ⟨a, b, q⟩
      · rw [if_neg b] at q; exact absurd q b
    · rw [if_neg a] at q; exact absurd q a
  obtain ⟨h4, h5⟩ := zAM q1
  have h6 := A4 q3
  have s1 := zCl r (by omega) (fun x hx => by have := h5 x hx; omega)
  have s2 := F8 s
  have s3 := zAZ l (by omega)
  have s4 := fun i => zAW r s (l.getD i default) (by omega) (fun x hx => by have := h5 x hx; omega)
  rw [q1] at s1
  rw [q2] at s2
  rw [q3] at s3
  have h0 : [] ++ i7 r s l 0 = P8 r s l := zFx r s l
  generalize P8 r s l = T at *
  clear q q1 q2 q3 h4 h5
  refine q7 func47 rfl (fun E hE => ?_); simp only [go_sem, ntmps47]
  repeat' (first | (refine Qr rfl ?_; try intro _ hK; try simp only [go_sem, *]) | (refine Qi rfl rfl rfl rfl ?_ ?_ <;> (intro hb; (try intro _ hK); have hc := hb; try simp only [go_sem] at hc; simp only [go_sem, *])) | refine Qh rfl ?_ | (refine Qc rfl rfl ?_ ?_ <;> (intro hb; have hc := hb; try simp only [go_sem] at hc)) | refine q6 rfl ?_ | ((first | refine q9 (s1) ?_ | refine q9 (s2) ?_ | refine q9 (s3) ?_); simp only [go_sem, *]) | ((with_reducible apply And.intro); focus omega) | (refine z8 hK ?_; clear hK; simp only [go_sem, *]) | simp only [z7, z6, go_sem, *])
  all_goals try contradiction
  refine b6 rfl (3) (fun m (xs : List Int) => xs ++ i7 r s l m = T ∧ xs.length ≤ 6 * m) 63 (fun m xs => [(32, iV m), (11, .own 0 1 0 xs.length), (0, x4 r), (1, sV s), (2, y4 l)]) (fun m xs => [.row 1 (xs.map iV)]) [none] [] ([]) (by exact ⟨h0, by simp⟩) ?_; intro m xs hm hP
  clear h0 s1 s2 s3
  obtain ⟨hP, hx⟩ := hP
  have hw : IntKind.i64.wrap ((m : Int) + 1) = ((m + 1 : Nat) : Int) := r6 (by omega)
  by_cases hm2 : m < 3
  · rw [zFw hm2] at hP
    have hm3 : (m : Int) < 3 := by omega
    repeat' (first | (refine Qr rfl ?_; try intro _ hK; try simp only [go_sem, *]) | (refine Qi rfl rfl rfl rfl ?_ ?_ <;> (intro hb; (try intro _ hK); have hc := hb; try simp only [go_sem] at hc; simp only [go_sem, *])) | refine Qh rfl ?_ | (refine Qc rfl rfl ?_ ?_ <;> (intro hb; have hc := hb; try simp only [go_sem] at hc)) | refine q6 rfl ?_ | ((with_reducible apply And.intro); focus omega) | (refine z8 hK ?_; clear hK; simp only [go_sem, *]) | simp only [z7, z6, go_sem, *])
    all_goals try contradiction
    refine b6 rfl (l.length) (fun i (ys : List Int) => ys ++ (i8 r s l m i ++ i7 r s l (m + 1)) = T ∧ ys.length ≤ 6 * m + i) 63 (fun i ys => [(37, iV i), (36, iV l.length), (35, y4 l), (12, iV m), (32, iV m), (11, .own 0 1 0 ys.length), (0, x4 r), (1, sV s), (2, y4 l)]) (fun i ys => [.row 1 (ys.map iV)]) [some 0] [] (xs) (by exact ⟨hP, by omega⟩) ?_; intro i ys hi hQ
    clear hP hx
    obtain ⟨hQ, hy⟩ := hQ
    by_cases hi2 : i < l.length
    · rw [zFz hi2] at hQ
      have s5 := s4 i
      generalize f6 r s (l.getD i default) = u at *
      generalize u0 r s (l.getD i default) = e at *
      have hwi : IntKind.i64.wrap ((i : Int) + 1) = ((i + 1 : Nat) : Int) := r6 (by omega)
      clear s4
      by_cases qe : e = 0
      · by_cases qu : u = (m : Int)
        · rw [if_pos ⟨qe, qu⟩] at hQ
          have hQ : (ys ++ [(i : Int)]) ++ (i8 r s l m (i + 1) ++ i7 r s l (m + 1)) = T := by rw [← hQ]; simp
          subst qe qu
          repeat' (first | (refine Qr rfl ?_; try intro _ hK; try simp only [go_sem, *]) | (refine Qi rfl rfl rfl rfl ?_ ?_ <;> (intro hb; (try intro _ hK); have hc := hb; try simp only [go_sem] at hc; simp only [go_sem, *])) | refine Qh rfl ?_ | (refine Qc rfl rfl ?_ ?_ <;> (intro hb; have hc := hb; try simp only [go_sem] at hc)) | refine q6 rfl ?_ | (refine q9 (s5) ?_; simp only [go_sem, *]) | ((with_reducible apply And.intro); focus omega) | (refine z8 hK ?_; clear hK; simp only [go_sem, *]) | simp only [z7, z6, go_sem, *])
          all_goals first | contradiction | omega | skip
          exact o3 (i' := i + 1) [some 2] [] (ys ++ [(i : Int)]) (by exact ⟨hQ, by simp; omega⟩)
        · rw [if_neg (fun h => qu h.2)] at hQ
          have hQ : ys ++ (i8 r s l m (i + 1) ++ i7 r s l (m + 1)) = T := hQ
          subst qe
          repeat' (first | (refine Qr rfl ?_; try intro _ hK; try simp only [go_sem, *]) | (refine Qi rfl rfl rfl rfl ?_ ?_ <;> (intro hb; (try intro _ hK); have hc := hb; try simp only [go_sem] at hc; simp only [go_sem, *])) | refine Qh rfl ?_ | (refine Qc rfl rfl ?_ ?_ <;> (intro hb; have hc := hb; try simp only [go_sem] at hc)) | refine q6 rfl ?_ | (refine q9 (s5) ?_; simp only [go_sem, *]) | ((with_reducible apply And.intro); focus omega) | (refine z8 hK ?_; clear hK; simp only [go_sem, *]) | simp only [z7, z6, go_sem, *])
          all_goals first | contradiction | omega | skip
          exact o3 (i' := i + 1) [some 0] [] (ys) (by exact ⟨hQ, by omega⟩)
      · rw [if_neg (fun h => qe h.1)] at hQ
        have hQ : ys ++ (i8 r s l m (i + 1) ++ i7 r s l (m + 1)) = T := hQ
        repeat' (first | (refine Qr rfl ?_; try intro _ hK; try simp only [go_sem, *]) | (refine Qi rfl rfl rfl rfl ?_ ?_ <;> (intro hb; (try intro _ hK); have hc := hb; try simp only [go_sem] at hc; simp only [go_sem, *])) | refine Qh rfl ?_ | (refine Qc rfl rfl ?_ ?_ <;> (intro hb; have hc := hb; try simp only [go_sem] at hc)) | refine q6 rfl ?_ | (refine q9 (s5) ?_; simp only [go_sem, *]) | ((with_reducible apply And.intro); focus omega) | (refine z8 hK ?_; clear hK; simp only [go_sem, *]) | simp only [z7, z6, go_sem, *])
        all_goals first | contradiction | omega | skip
        exact o3 (i' := i + 1) [some 0] [] (ys) (by exact ⟨hQ, by omega⟩)
    · rw [zFy (by omega)] at hQ
      have hQ : ys ++ i7 r s l (m + 1) = T := hQ
      clear s4
      repeat' (first | (refine Qr rfl ?_; try intro _ hK; try simp only [go_sem, *]) | (refine Qi rfl rfl rfl rfl ?_ ?_ <;> (intro hb; (try intro _ hK); have hc := hb; try simp only [go_sem] at hc; simp only [go_sem, *])) | refine Qh rfl ?_ | (refine Qc rfl rfl ?_ ?_ <;> (intro hb; have hc := hb; try simp only [go_sem] at hc)) | refine q6 rfl ?_ | ((with_reducible apply And.intro); focus omega) | (refine z8 hK ?_; clear hK; simp only [go_sem, *]) | simp only [z7, z6, go_sem, *])
      all_goals first | contradiction | omega | skip
      exact o3 (i' := m + 1) [some 0] [] (ys) (by exact ⟨hQ, by omega⟩)
  · have e : i7 r s l m = [] := by
      unfold i7
      rw [show 3 - m = 0 by omega]; rfl
    rw [e, List.append_nil] at hP
    subst hP
    have hm3 : ¬ (m : Int) < 3 := by omega
    clear s4
    repeat' (first | (refine Qr rfl ?_; try intro _ hK; try simp only [go_sem, *]) | (refine Qi rfl rfl rfl rfl ?_ ?_ <;> (intro hb; (try intro _ hK); have hc := hb; try simp only [go_sem] at hc; simp only [go_sem, *])) | refine Qh rfl ?_ | (refine Qc rfl rfl ?_ ?_ <;> (intro hb; have hc := hb; try simp only [go_sem] at hc)) | refine q6 rfl ?_ | ((with_reducible apply And.intro); focus omega) | (refine z8 hK ?_; clear hK; simp only [go_sem, *]) | simp only [z7, z6, go_sem, *])
    all_goals first | contradiction | omega | skip
    refine ⟨[_, _], [some 0], [], ⟨rfl, rfl, trivial⟩, ?_⟩
    simp only [go_sem, *]
end Go.Abs

namespace Go.Abs
open Go Go.Proofs Tryz
attribute [local irreducible] y3 Hold y7
def X3 (s p : Str) : Str := if p.isPrefixOf s = true then s.drop p.length else s
theorem zHN (s p : Str) (h1 : s.length ≤ 4294967296) (h2 : p.length ≤ 4294967296) : zLn prog 161 [sV s, sV p] [] (sV (X3 s p)) [] := by
 have sh := zCa s p h1 h2
 unfold X3
 cases q : p.isPrefixOf s
 ·rw [q] at sh
  rw [if_neg (by decide)]
  clear q
  refine q7 func161 rfl (fun E hE => ?_); simp only [go_sem, ntmps161]
  repeat' (first | (refine Qr rfl ?_; try intro _ hK; try simp only [go_sem, *]) | refine Qh rfl ?_ | (refine Qc rfl rfl ?_ ?_ <;> (intro hb; have hc := hb; try simp only [go_sem] at hc)) | refine q6 rfl ?_ | (refine q9 (sh) ?_; simp only [go_sem, *]) | ((with_reducible apply And.intro); focus omega) | (refine z8 hK ?_; clear hK; simp only [go_sem, *]) | simp only [z7, z6, go_sem, *])
  all_goals try contradiction
  (refine ⟨[_], [], [], ⟨rfl, trivial⟩, ?_⟩; simp only [go_sem, *])
 ·rw [q] at sh
  have hpl := zAL q
  rw [if_pos rfl]
  clear q
  refine q7 func161 rfl (fun E hE => ?_); simp only [go_sem, ntmps161]
  repeat' (first | (refine Qr rfl ?_; try intro _ hK; try simp only [go_sem, *]) | refine Qh rfl ?_ | (refine Qc rfl rfl ?_ ?_ <;> (intro hb; have hc := hb; try simp only [go_sem] at hc)) | refine q6 rfl ?_ | (refine q9 (sh) ?_; simp only [go_sem, *]) | ((with_reducible apply And.intro); focus omega) | (refine z8 hK ?_; clear hK; simp only [go_sem, *]) | simp only [z7, z6, go_sem, *])
  all_goals try contradiction
  (refine ⟨[_], [], [], ⟨rfl, trivial⟩, ?_⟩; simp only [go_sem, *])
theorem zHM (s p : Str) (h1 : s.length ≤ 4294967296) (h2 : p.length ≤ 4294967296) : zLn prog 136 [sV s, sV p] [] (sV (X3 s p)) [] := by
 have sh := zHN s p h1 h2
 generalize X3 s p = t at *
 refine q7 func136 rfl (fun E hE => ?_); simp only [go_sem, ntmps136]
 repeat' (first | (refine Qr rfl ?_; try intro _ hK; try simp only [go_sem, *]) | refine Qh rfl ?_ | (refine Qc rfl rfl ?_ ?_ <;> (intro hb; have hc := hb; try simp only [go_sem] at hc)) | refine q6 rfl ?_ | (refine q9 (sh) ?_; simp only [go_sem, *]) | ((with_reducible apply And.intro); focus omega) | (refine z8 hK ?_; clear hK; simp only [go_sem, *]) | simp only [z7, z6, go_sem, *])
 (refine ⟨[_], [], [], ⟨rfl, trivial⟩, ?_⟩; simp only [go_sem, *])
theorem zH8 (a : UInt8) (x : Str) : X3 (a :: x) [a] = x := by simp [X3]
theorem zH7 {a c : UInt8} (h : ¬ a = c) (x : Str) : X3 (a :: x) [c] = a :: x := by
 have : ¬ c = a := fun e => h e.symm
 simp [X3, this]
theorem zFa {s : Str} (v : s.all y6 = true) {i : Nat} (h : i < s.length) : (s.getD i 0).toNat < 128 := by
 have hm : s.getD i 0 ∈ s := by simp [List.getD, h]
 have := List.all_eq_true.1 v _ hm
 unfold y6 at this
 simp only [Bool.and_eq_true, decide_eq_true_eq] at this
 omega
theorem zHv (k whole : Str) (hk0 : 0 < k.length) (hk1 : k.length ≤ 1000) (hw : whole.all y6 = true) (hw1 : whole.length ≤ 1000) : zLn prog 111 [sV k, sV whole] [] (bV (Q7 k whole)) [] := by
  by_cases q1 : k.length < whole.length
  · have q1i : ¬ (k.length : Int) ≥ (whole.length : Int) := by omega
    by_cases q2 : k.getD 0 0 = whole.getD 0 0
    · have e : Q7 k whole = zMJ k whole := by
        unfold Q7
        rw [decide_eq_true q1, q2]; simp
      rw [e]
      have hP0 : zMJ k (whole.drop 0) = zMJ k whole := rfl
      generalize zMJ k whole = R at *
      have q2n : ((k.getD 0 0).toNat : Int) = (whole.getD 0 0).toNat := by rw [q2]
      have hwa := fun i => zFa (i := i) hw
      clear e q2 hw
      refine q7 func111 rfl (fun E hE => ?_); simp only [go_sem, ntmps111]
      repeat' (first | (refine Qr rfl ?_; try intro _ hK; try simp only [go_sem, *]) | (refine Qi rfl rfl rfl rfl ?_ ?_ <;> (intro hb; (try intro _ hK); have hc := hb; try simp only [go_sem] at hc; simp only [go_sem, *])) | refine Qh rfl ?_ | refine Qd rfl (by kernel_rfl) ?_ | (refine Qc rfl rfl ?_ ?_ <;> (intro hb; have hc := hb; try simp only [go_sem] at hc)) | refine q6 rfl ?_ | (refine Qb ?_ ?_; focus kernel_rfl) | ((with_reducible apply And.intro); focus omega) | (refine z8 hK ?_; clear hK; simp only [go_sem, *]) | simp only [z7, z6, go_sem, *])
      all_goals first | contradiction | omega | skip
      refine b6 rfl (whole.length) (fun i (rest : Str) => 0 < rest.length ∧ rest.length ≤ 1000 ∧ zMJ rest (whole.drop i) = R) 32 (fun i rest => [(22, .ptr 0 0), (5, sV rest)]) (fun i rest => [.siter ⟨whole.toArray⟩ i]) [some 0] [] (k) (by exact ⟨hk0, hk1, hP0⟩) ?_; intro i rest hi hP
      clear hP0 q2n
      obtain ⟨hr0, hr1, hP⟩ := hP
      obtain ⟨a, x, rfl⟩ : ∃ a x, rest = a :: x := by
        cases rest with
        | nil => simp at hr0
        | cons a x => exact ⟨a, x, rfl⟩
      by_cases hi2 : i < whole.length
      · have ha := hwa i hi2
        have hd := D9 hi2 ha
        have ee := C2 (n := ((whole.getD i 0).toNat : Int)) (by omega) (by omega)
        rw [Int.toNat_natCast, UInt8.ofNat_toNat] at ee
        have st := zHM (a :: x) [whole.getD i 0] (by omega) (by simp)
        rw [l8 hi2] at hP
        have hP : (if a = whole.getD i default then zMJ x (whole.drop (i + 1)) else zMJ (a :: x) (whole.drop (i + 1))) = R := hP
        have hdef : whole.getD i default = whole.getD i 0 := rfl
        rw [hdef] at hP
        clear hdef hwa
        generalize whole.getD i 0 = c at *
        generalize he : Utf8.encode (c.toNat : Int) = eb at *
        have st : zLn prog 136 [sV (a :: x), .raw (.string eb)] [] (sV (X3 (a :: x) [c])) [] := by rw [ee]; exact st
        clear ee
        by_cases hac : a = c
        · subst hac
          rw [if_pos rfl] at hP
          rw [zH8] at st
          cases x with
          | nil =>
            have hP : true = R := by rw [← hP]; cases whole.drop (i + 1) <;> rfl
            subst hP
            repeat' (first | (refine Qr rfl ?_; try intro _ hK; try simp only [go_sem, *]) | (refine Qi rfl rfl rfl rfl ?_ ?_ <;> (intro hb; (try intro _ hK); have hc := hb; try simp only [go_sem] at hc; simp only [go_sem, *])) | refine Qh rfl ?_ | refine Qd rfl (by kernel_rfl) ?_ | (refine Qc rfl rfl ?_ ?_ <;> (intro hb; have hc := hb; try simp only [go_sem] at hc)) | refine q6 rfl ?_ | (refine Qb ?_ ?_; focus kernel_rfl) | (refine q9 (st) ?_; simp only [go_sem, *]) | ((with_reducible apply And.intro); focus omega) | (refine z8 hK ?_; clear hK; simp only [go_sem, *]) | simp only [z7, z6, go_sem, *])
            all_goals ((try clear hd he); first | contradiction | skip)
            (refine ⟨[_], [], [], ⟨rfl, trivial⟩, ?_⟩; simp only [go_sem, *])
          | cons b y =>
            have hr1' : (b :: y).length ≤ 1000 := by simp at hr1 ⊢; omega
            clear hr0 hr1
            repeat' (first | (refine Qr rfl ?_; try intro _ hK; try simp only [go_sem, *]) | (refine Qi rfl rfl rfl rfl ?_ ?_ <;> (intro hb; (try intro _ hK); have hc := hb; try simp only [go_sem] at hc; simp only [go_sem, *])) | refine Qh rfl ?_ | refine Qd rfl (by kernel_rfl) ?_ | (refine Qc rfl rfl ?_ ?_ <;> (intro hb; have hc := hb; try simp only [go_sem] at hc)) | refine q6 rfl ?_ | (refine Qb ?_ ?_; focus kernel_rfl) | (refine q9 (st) ?_; simp only [go_sem, *]) | ((with_reducible apply And.intro); focus omega) | (refine z8 hK ?_; clear hK; simp only [go_sem, *]) | simp only [z7, z6, go_sem, *])
            all_goals ((try clear hd he); first | contradiction | skip)
            exact o3 (i' := i + 1) [some 0] [] (b :: y) (by exact ⟨by simp, hr1', hP⟩)
        · rw [if_neg hac] at hP
          rw [zH7 hac] at st
          clear hac
          repeat' (first | (refine Qr rfl ?_; try intro _ hK; try simp only [go_sem, *]) | (refine Qi rfl rfl rfl rfl ?_ ?_ <;> (intro hb; (try intro _ hK); have hc := hb; try simp only [go_sem] at hc; simp only [go_sem, *])) | refine Qh rfl ?_ | refine Qd rfl (by kernel_rfl) ?_ | (refine Qc rfl rfl ?_ ?_ <;> (intro hb; have hc := hb; try simp only [go_sem] at hc)) | refine q6 rfl ?_ | (refine Qb ?_ ?_; focus kernel_rfl) | (refine q9 (st) ?_; simp only [go_sem, *]) | ((with_reducible apply And.intro); focus omega) | (refine z8 hK ?_; clear hK; simp only [go_sem, *]) | simp only [z7, z6, go_sem, *])
          all_goals ((try clear hd he); first | contradiction | skip)
          exact o3 (i' := i + 1) [some 0] [] (a :: x) (by exact ⟨hr0, hr1, hP⟩)
      · rw [c9 (by omega)] at hP
        have hP : false = R := hP
        subst hP
        clear hwa
        repeat' (first | (refine Qr rfl ?_; try intro _ hK; try simp only [go_sem, *]) | (refine Qi rfl rfl rfl rfl ?_ ?_ <;> (intro hb; (try intro _ hK); have hc := hb; try simp only [go_sem] at hc; simp only [go_sem, *])) | refine Qh rfl ?_ | refine Qd rfl (by kernel_rfl) ?_ | (refine Qc rfl rfl ?_ ?_ <;> (intro hb; have hc := hb; try simp only [go_sem] at hc)) | refine q6 rfl ?_ | (refine Qb ?_ ?_; focus kernel_rfl) | ((with_reducible apply And.intro); focus omega) | (refine z8 hK ?_; clear hK; simp only [go_sem, *]) | simp only [z7, z6, go_sem, *])
        all_goals first | contradiction | omega | skip
        (refine ⟨[_], [], [], ⟨rfl, trivial⟩, ?_⟩; simp only [go_sem, *])
    · have e : Q7 k whole = false := by
        unfold Q7
        rw [show (k.getD 0 0 == whole.getD 0 0) = false by simpa using q2]; simp
      rw [e]
      have q2n : ¬ ((k.getD 0 0).toNat : Int) = (whole.getD 0 0).toNat := fun h => q2 (UInt8.toNat_inj.1 (by omega))
      clear e q2 hw
      refine q7 func111 rfl (fun E hE => ?_); simp only [go_sem, ntmps111]
      repeat' (first | (refine Qr rfl ?_; try intro _ hK; try simp only [go_sem, *]) | (refine Qi rfl rfl rfl rfl ?_ ?_ <;> (intro hb; (try intro _ hK); have hc := hb; try simp only [go_sem] at hc; simp only [go_sem, *])) | refine Qh rfl ?_ | refine Qd rfl (by kernel_rfl) ?_ | (refine Qc rfl rfl ?_ ?_ <;> (intro hb; have hc := hb; try simp only [go_sem] at hc)) | refine q6 rfl ?_ | (refine Qb ?_ ?_; focus kernel_rfl) | ((with_reducible apply And.intro); focus omega) | (refine z8 hK ?_; clear hK; simp only [go_sem, *]) | simp only [z7, z6, go_sem, *])
      all_goals first | contradiction | omega | skip
      (refine ⟨[_], [], [], ⟨rfl, trivial⟩, ?_⟩; simp only [go_sem, *])
  · have e : Q7 k whole = false := by
      unfold Q7
      rw [decide_eq_false q1]; rfl
    rw [e]
    clear e hw
    have q1i : (k.length : Int) ≥ (whole.length : Int) := by omega
    refine q7 func111 rfl (fun E hE => ?_); simp only [go_sem, ntmps111]
    repeat' (first | (refine Qr rfl ?_; try intro _ hK; try simp only [go_sem, *]) | (refine Qi rfl rfl rfl rfl ?_ ?_ <;> (intro hb; (try intro _ hK); have hc := hb; try simp only [go_sem] at hc; simp only [go_sem, *])) | refine Qh rfl ?_ | refine Qd rfl (by kernel_rfl) ?_ | (refine Qc rfl rfl ?_ ?_ <;> (intro hb; have hc := hb; try simp only [go_sem] at hc)) | refine q6 rfl ?_ | (refine Qb ?_ ?_; focus kernel_rfl) | ((with_reducible apply And.intro); focus omega) | (refine z8 hK ?_; clear hK; simp only [go_sem, *]) | simp only [z7, z6, go_sem, *])
    all_goals first | contradiction | omega | skip
    (refine ⟨[_], [], [], ⟨rfl, trivial⟩, ?_⟩; simp only [go_sem, *])
end Go.Abs

namespace Go.Abs
open Go Go.Proofs Tryz
attribute [local irreducible] y3 Hold y7
def zL6 (k own s : Str) : Bool := !(decide (zLm s = own)) && Q7 k (zLm s)
theorem zHi (k own s : Str) (hk0 : 0 < k.length) (hk1 : k.length ≤ 1000) (v : ValidN s) : zLn prog 139 [sV s, .ptr 0 0, .ptr 1 0] [.box [sV own], .box [sV k]] (bV (zL6 k own s)) [.box [sV own], .box [sV k]] := by
 have so := V8 s v.form (by have := v.len; omega)
 have hkl := H9 v
 unfold x7 at hkl
 simp only [Bool.and_eq_true, decide_eq_true_eq] at hkl
 have ss := zHv k (zLm s) hk0 hk1 hkl.2.2 (by omega)
 unfold zL6
 generalize zLm s = ks at *
 generalize Q7 k ks = b at *
 clear hkl v hk0
 by_cases q : ks = own
 ·have e : (!decide (ks = own) && b) = false := by rw [decide_eq_true q]; rfl
  rw [e]
  subst q
  clear e ss
  refine q7 func139 rfl (fun E hE => ?_); simp only [go_sem, ntmps139]
  repeat' (first | (refine Qr rfl ?_; try intro _ hK; try simp only [go_sem, *]) | (refine Qi rfl rfl rfl rfl ?_ ?_ <;> (intro hb; (try intro _ hK); have hc := hb; try simp only [go_sem] at hc; simp only [go_sem, *])) | refine Qh rfl ?_ | refine Qd rfl (by kernel_rfl) ?_ | (refine Qc rfl rfl ?_ ?_ <;> (intro hb; have hc := hb; try simp only [go_sem] at hc)) | refine q6 rfl ?_ | (refine Qb ?_ ?_; focus kernel_rfl) | (refine q9 (so) ?_; simp only [go_sem, *]) | ((with_reducible apply And.intro); focus omega) | (refine z8 hK ?_; clear hK; simp only [go_sem, *]) | simp only [z7, z6, go_sem, *])
  all_goals try contradiction
  refine ⟨[_], [some 0, some 1], [], ⟨rfl, trivial⟩, ?_⟩
  simp only [go_sem, *]
 ·have e : (!decide (ks = own) && b) = b := by rw [decide_eq_false q]; rfl
  rw [e]
  clear e
  refine q7 func139 rfl (fun E hE => ?_); simp only [go_sem, ntmps139]
  repeat' (first | (refine Qr rfl ?_; try intro _ hK; try simp only [go_sem, *]) | (refine Qi rfl rfl rfl rfl ?_ ?_ <;> (intro hb; (try intro _ hK); have hc := hb; try simp only [go_sem] at hc; simp only [go_sem, *])) | refine Qh rfl ?_ | refine Qd rfl (by kernel_rfl) ?_ | (refine Qc rfl rfl ?_ ?_ <;> (intro hb; have hc := hb; try simp only [go_sem] at hc)) | refine q6 rfl ?_ | (refine Qb ?_ ?_; focus kernel_rfl) | ((first | refine q9 (so) ?_ | refine q9 (ss) ?_); simp only [go_sem, *]) | ((with_reducible apply And.intro); focus omega) | (refine z8 hK ?_; clear hK; simp only [go_sem, *]) | simp only [z7, z6, go_sem, *])
  all_goals try contradiction
  refine ⟨[_], [some 0, some 1], [], ⟨rfl, trivial⟩, ?_⟩
  simp only [go_sem, *]
def zMB (p : Str → Bool) : List Str → Nat → Int
 | [], _ => -1
 | x :: r, i => if p x = true then (i : Int) else zMB p r (i + 1)
theorem zBa (p : Str → Bool) : ∀ (l : List Str) (i : Nat), decide (zMB p l i ≥ 0) = l.any p
 | [], i => by simp [zMB]
 | x :: r, i => by
  rw [zMB, List.any_cons]
  cases hp : p x with
  | true => simp
  | false => rw [if_neg (by decide), zBa p r (i + 1), Bool.false_or]
theorem zHF (k own : Str) (l : List Str) (hk0 : 0 < k.length) (hk1 : k.length ≤ 1000) (hv : ∀ s, s ∈ l → ValidN s) (hl : l.length ≤ 1000) :
  zLn prog 162 [y4 l, .fn 139 [.ptr 0 0, .ptr 1 0]] [.box [sV own], .box [sV k]] (iV (zMB (zL6 k own) l 0)) [.box [sV own], .box [sV k]] := by
 have hca : t8 prog 139 = true := by kernel_rfl
 have h0 : zMB (zL6 k own) (l.drop 0) 0 = zMB (zL6 k own) l 0 := rfl
 generalize zMB (zL6 k own) l 0 = T at *
 have sm := fun s v => zHi k own s hk0 hk1 v
 refine q7 func162 rfl (fun E hE => ?_); simp only [go_sem, ntmps162]
 repeat' (first | (refine Qr rfl ?_; try intro _ hK; try simp only [go_sem, *]) | refine Qh rfl ?_ | (refine Qc rfl rfl ?_ ?_ <;> (intro hb; have hc := hb; try simp only [go_sem] at hc)) | refine q6 rfl ?_ | ((with_reducible apply And.intro); focus omega) | (refine z8 hK ?_; clear hK; simp only [go_sem, *]) | simp only [z7, z6, go_sem, *])
 refine p8 rfl (l.length) (fun i => zMB (zL6 k own) (l.drop i) i = T) 19 (fun i => [(8, iV i), (7, iV l.length), (0, y4 l), (1, .fn 139 [.ptr 0 0, .ptr 1 0])]) (fun i => [.box [sV own], .box [sV k]]) [some 0, some 1] [] (by exact h0) ?_; intro i hi hP
 clear h0
 by_cases hi2 : i < l.length
 ·have sc := sm _ (hv _ (l4 hi2))
  rw [l8 hi2, zMB] at hP
  generalize hm : zL6 k own (l.getD i default) = b at *
  clear hm
  cases b
  ·have hP : zMB (zL6 k own) (l.drop (i + 1)) (i + 1) = T := hP
   clear sm
   repeat' (first | (refine Qr rfl ?_; try intro _ hK; try simp only [go_sem, *]) | refine Qh rfl ?_ | (refine Qc rfl rfl ?_ ?_ <;> (intro hb; have hc := hb; try simp only [go_sem] at hc)) | refine q6 rfl ?_ | (refine w5 [0, 1] (sc) ?_; simp only [go_sem, *]) | ((with_reducible apply And.intro); focus omega) | (refine z8 hK ?_; clear hK; simp only [go_sem, *]) | simp only [z7, z6, go_sem, *])
   all_goals first | contradiction | omega | skip
   exact p9 (i' := i + 1) [some 0, some 1] [] (by exact hP)
  ·have hP : (i : Int) = T := hP
   subst hP
   clear sm
   repeat' (first | (refine Qr rfl ?_; try intro _ hK; try simp only [go_sem, *]) | refine Qh rfl ?_ | (refine Qc rfl rfl ?_ ?_ <;> (intro hb; have hc := hb; try simp only [go_sem] at hc)) | refine q6 rfl ?_ | (refine w5 [0, 1] (sc) ?_; simp only [go_sem, *]) | ((with_reducible apply And.intro); focus omega) | (refine z8 hK ?_; clear hK; simp only [go_sem, *]) | simp only [z7, z6, go_sem, *])
   all_goals first | contradiction | omega | skip
   refine ⟨[_], [some 0, some 1], [], ⟨rfl, trivial⟩, ?_⟩
   simp only [go_sem, *]
 ·rw [c9 (by omega)] at hP
  have hP : (-1 : Int) = T := hP
  subst hP
  clear sm
  repeat' (first | (refine Qr rfl ?_; try intro _ hK; try simp only [go_sem, *]) | refine Qh rfl ?_ | (refine Qc rfl rfl ?_ ?_ <;> (intro hb; have hc := hb; try simp only [go_sem] at hc)) | refine q6 rfl ?_ | ((with_reducible apply And.intro); focus omega) | (refine z8 hK ?_; clear hK; simp only [go_sem, *]) | simp only [z7, z6, go_sem, *])
  all_goals first | contradiction | omega | skip
  refine ⟨[_], [some 0, some 1], [], ⟨rfl, trivial⟩, ?_⟩
  simp only [go_sem, *]
theorem zG9 (k own : Str) (l : List Str) (hk0 : 0 < k.length) (hk1 : k.length ≤ 1000) (hv : ∀ s, s ∈ l → ValidN s) (hl : l.length ≤ 1000) :
  zLn prog 138 [y4 l, .fn 139 [.ptr 0 0, .ptr 1 0]] [.box [sV own], .box [sV k]] (bV (l.any (zL6 k own))) [.box [sV own], .box [sV k]] := by
 have si := zHF k own l hk0 hk1 hv hl
 rw [← zBa (zL6 k own) l 0]
 generalize zMB (zL6 k own) l 0 = n at *
 clear hv
 refine q7 func138 rfl (fun E hE => ?_); simp only [go_sem, ntmps138]
 repeat' (first | (refine Qr rfl ?_; try intro _ hK; try simp only [go_sem, *]) | refine Qh rfl ?_ | (refine Qc rfl rfl ?_ ?_ <;> (intro hb; have hc := hb; try simp only [go_sem] at hc)) | refine q6 rfl ?_ | (refine w5 [0, 1] (si) ?_; simp only [go_sem, *]) | ((with_reducible apply And.intro); focus omega) | (refine z8 hK ?_; clear hK; simp only [go_sem, *]) | simp only [z7, z6, go_sem, *])
 refine ⟨[_], [some 0, some 1], [], ⟨rfl, trivial⟩, ?_⟩
 simp only [go_sem, *]
theorem zHj (k own : Str) (l : List Str) (hk0 : 0 < k.length) (hk1 : k.length ≤ 1000) (hv : ∀ s, s ∈ l → ValidN s) (hl : l.length ≤ 1000) :
  zLn prog 114 [sV k, y4 l, sV own] [] (bV (i6 k l own)) [] := by
 have sc := zG9 k own l hk0 hk1 hv hl
 have e : i6 k l own = l.any (zL6 k own) := rfl
 rw [e]
 clear e hv
 generalize l.any (zL6 k own) = b at *
 refine q7 func114 rfl (fun E hE => ?_); simp only [go_sem, ntmps114]
 repeat' (first | (refine Qr rfl ?_; try intro _ hK; try simp only [go_sem, *]) | refine Qh rfl ?_ | (refine Qc rfl rfl ?_ ?_ <;> (intro hb; have hc := hb; try simp only [go_sem] at hc)) | refine q6 rfl ?_ | (refine w5 [1, 0] (sc) ?_; simp only [go_sem, *]) | ((with_reducible apply And.intro); focus omega) | (refine z8 hK ?_; clear hK; simp only [go_sem, *]) | simp only [z7, z6, go_sem, *])
 (refine ⟨[_], [], [], ⟨rfl, trivial⟩, ?_⟩; simp only [go_sem, *])
end Go.Abs

namespace Go.Abs
open Go Go.Proofs Tryz
attribute [local irreducible] y3 Hold y7
abbrev zA5 (now : Str) (i : Nat) : List AV := [sV now, iV i, .ptr 0 0, .ptr 1 0, .ptr 2 0]
abbrev W1 (k : Str) (m : List Str) : List AObj := [.box [sV k], .box [.mp 3], .box [.fn 140 [.ptr 0 0, .ptr 1 0, .ptr 2 0]], .mapo (m.map zLv) (m.map fun _ => bV true)]
def SmallL (m : List Str) : Prop := ∀ x, x ∈ m → x.length ≤ 1000
theorem SmallL.met {k now : Str} {m : List Str} (h : SmallL m) (hn : now.length ≤ 1000) : SmallL (zL5 k m now) := fun x hx => by
 rcases mem_metC.1 hx with hx | ⟨rfl, _⟩
 ·exact h x hx
 ·exact hn
theorem SmallL.go {k now : Str} {m : List Str} {n i : Nat} (h : SmallL m) (hk : k.length ≤ 1000) (hi : k.length - i ≤ n) : SmallL (goC k n m now i) := fun x hx => by
 rcases (zAC hi).1 hx with hx | ⟨t, _, _, hl⟩
 ·exact h x hx
 ·omega
theorem zCh (k : Str) (hk : k.length ≤ 1000) : ∀ (n : Nat) (m : List Str) (now : Str) (i : Nat), k.length - i ≤ n → now.length ≤ i → i ≤ k.length → SmallL m →
  zLn prog 140 (zA5 now i) (W1 k m) (.tup []) (W1 k (goC k n m now i))
 | 0, m, now, i, hn, h1, h2, hs => by
  have hi : i = k.length := by omega
  subst hi
  have e : goC k 0 m now k.length = zL5 k m now := rfl
  rw [e]
  clear e
  unfold zL5
  by_cases q : now.length < k.length
  ·rw [if_pos q]
   have qi : (now.length : Int) < (k.length : Int) := by omega
   refine q7 func140 rfl (fun E hE => ?_); simp only [go_sem, ntmps140]
   repeat' (first | (refine Qr rfl ?_; try intro _ hK; try simp only [go_sem, *]) | refine Qh rfl ?_ | refine Qd rfl (by kernel_rfl) ?_ | (refine Qc rfl rfl ?_ ?_ <;> (intro hb; have hc := hb; try simp only [go_sem] at hc)) | refine q6 rfl ?_ | (refine Qb ?_ ?_; focus kernel_rfl) | ((with_reducible apply And.intro); focus omega) | (refine z8 hK ?_; clear hK; simp only [go_sem, *]) | simp only [z7, z6, go_sem, *])
   all_goals first | contradiction | omega | skip
   refine zAf hs (by omega) (by simp only [go_sem]) ?_
   repeat' (first | (refine Qr rfl ?_; try intro _ hK; try simp only [go_sem, *]) | refine Qh rfl ?_ | refine Qd rfl (by kernel_rfl) ?_ | (refine Qc rfl rfl ?_ ?_ <;> (intro hb; have hc := hb; try simp only [go_sem] at hc)) | refine q6 rfl ?_ | (refine Qb ?_ ?_; focus kernel_rfl) | ((with_reducible apply And.intro); focus omega) | (refine z8 hK ?_; clear hK; simp only [go_sem, *]) | simp only [z7, z6, go_sem, *])
   refine p8 rfl (1) (fun t => NoQ t) 33 (fun t => [(7, iV k.length), (0, sV now), (2, .ptr 0 0), (3, .ptr 1 0), (4, .ptr 2 0)]) (fun t => W1 k (zL9 m now)) [some 0, some 1, some 2, some 3] [] (by trivial) ?_; intro t ht hP
   repeat' (first | (refine Qr rfl ?_; try intro _ hK; try simp only [go_sem, *]) | refine Qh rfl ?_ | refine Qd rfl (by kernel_rfl) ?_ | (refine Qc rfl rfl ?_ ?_ <;> (intro hb; have hc := hb; try simp only [go_sem] at hc)) | refine q6 rfl ?_ | (refine Qb ?_ ?_; focus kernel_rfl) | ((with_reducible apply And.intro); focus omega) | (refine z8 hK ?_; clear hK; simp only [go_sem, *]) | simp only [z7, z6, go_sem, *])
   all_goals first | contradiction | omega | skip
   refine ⟨[], [some 0, some 1, some 2, some 3], [], trivial, ?_⟩
   simp only [go_sem, j8, *]
  ·rw [if_neg q]
   have qi : ¬ (now.length : Int) < (k.length : Int) := by omega
   refine q7 func140 rfl (fun E hE => ?_); simp only [go_sem, ntmps140]
   repeat' (first | (refine Qr rfl ?_; try intro _ hK; try simp only [go_sem, *]) | refine Qh rfl ?_ | refine Qd rfl (by kernel_rfl) ?_ | (refine Qc rfl rfl ?_ ?_ <;> (intro hb; have hc := hb; try simp only [go_sem] at hc)) | refine q6 rfl ?_ | (refine Qb ?_ ?_; focus kernel_rfl) | ((with_reducible apply And.intro); focus omega) | (refine z8 hK ?_; clear hK; simp only [go_sem, *]) | simp only [z7, z6, go_sem, *])
   all_goals first | contradiction | omega | skip
   refine p8 rfl (1) (fun t => NoQ t) 33 (fun t => [(7, iV k.length), (0, sV now), (2, .ptr 0 0), (3, .ptr 1 0), (4, .ptr 2 0)]) (fun t => W1 k m) [some 0, some 1, some 2, some 3] [] (by trivial) ?_; intro t ht hP
   repeat' (first | (refine Qr rfl ?_; try intro _ hK; try simp only [go_sem, *]) | refine Qh rfl ?_ | refine Qd rfl (by kernel_rfl) ?_ | (refine Qc rfl rfl ?_ ?_ <;> (intro hb; have hc := hb; try simp only [go_sem] at hc)) | refine q6 rfl ?_ | (refine Qb ?_ ?_; focus kernel_rfl) | ((with_reducible apply And.intro); focus omega) | (refine z8 hK ?_; clear hK; simp only [go_sem, *]) | simp only [z7, z6, go_sem, *])
   all_goals first | contradiction | omega | skip
   refine ⟨[], [some 0, some 1, some 2, some 3], [], trivial, ?_⟩
   simp only [go_sem, j8, *]
 | n + 1, m, now, i, hn, h1, h2, hs => by
  have hca : t8 prog 140 = true := by kernel_rfl
  have IH := zCh k hk n
  rw [B6]
  have hs2 : SmallL (zL5 k m now) := hs.met (by omega)
  obtain ⟨T, hT⟩ : ∃ T, Z0 k n (zL5 k m now) now (i + 0) = T := ⟨_, rfl⟩
  have hT0 : Z0 k n (zL5 k m now) now i = T := hT
  rw [hT0]
  clear hT0
  unfold zL5 at hT hs2
  by_cases q : now.length < k.length
  ·rw [if_pos q] at hT hs2
   have qi : (now.length : Int) < (k.length : Int) := by omega
   refine q7 func140 rfl (fun E hE => ?_); simp only [go_sem, ntmps140]
   repeat' (first | (refine Qr rfl ?_; try intro _ hK; try simp only [go_sem, *]) | refine Qh rfl ?_ | refine Qd rfl (by kernel_rfl) ?_ | (refine Qc rfl rfl ?_ ?_ <;> (intro hb; have hc := hb; try simp only [go_sem] at hc)) | refine q6 rfl ?_ | (refine Qb ?_ ?_; focus kernel_rfl) | ((with_reducible apply And.intro); focus omega) | (refine z8 hK ?_; clear hK; simp only [go_sem, *]) | simp only [z7, z6, go_sem, *])
   all_goals first | contradiction | omega | skip
   refine zAf hs (by omega) (by simp only [go_sem]) ?_
   repeat' (first | (refine Qr rfl ?_; try intro _ hK; try simp only [go_sem, *]) | refine Qh rfl ?_ | refine Qd rfl (by kernel_rfl) ?_ | (refine Qc rfl rfl ?_ ?_ <;> (intro hb; have hc := hb; try simp only [go_sem] at hc)) | refine q6 rfl ?_ | (refine Qb ?_ ?_; focus kernel_rfl) | ((with_reducible apply And.intro); focus omega) | (refine z8 hK ?_; clear hK; simp only [go_sem, *]) | simp only [z7, z6, go_sem, *])
   refine b6 rfl (k.length - i) (fun t (z : List Str) => Z0 k n z now (i + t) = T ∧ SmallL z) 33 (fun t z => [(7, iV ((i + t : Nat) : Int)), (0, sV now), (2, .ptr 0 0), (3, .ptr 1 0), (4, .ptr 2 0)]) (fun t z => W1 k z) [some 0, some 1, some 2, some 3] [] (zL9 m now) (by exact ⟨hT, hs2⟩) ?_; intro t z ht hP
   clear hT hs2 hs
   obtain ⟨hP, hz⟩ := hP
   generalize hjj : i + t = j at *
   by_cases hj : j < k.length
   ·rw [B5 hj] at hP
    have sI := IH z (now ++ [k.getD j 0]) (j + 1) (by omega) (by simp; omega) (by omega) hz
    have hz2 : SmallL (goC k n z (now ++ [k.getD j 0]) (j + 1)) := hz.go hk (by omega)
    have hdt := C0 hj
    have hji : (j : Int) < (k.length : Int) := by omega
    have hwj : IntKind.i64.wrap ((j : Int) + 1) = ((j + 1 : Nat) : Int) := r6 (by omega)
    have hnx : i + (t + 1) = j + 1 := by omega
    generalize goC k n z (now ++ [k.getD j 0]) (j + 1) = z2 at *
    clear IH hz
    repeat' (first | (refine Qr rfl ?_; try intro _ hK; try simp only [go_sem, *]) | refine Qh rfl ?_ | refine Qd rfl (by kernel_rfl) ?_ | (refine Qc rfl rfl ?_ ?_ <;> (intro hb; have hc := hb; try simp only [go_sem] at hc)) | refine q6 rfl ?_ | (refine Qb ?_ ?_; focus kernel_rfl) | ((with_reducible apply And.intro); focus omega) | (refine z8 hK ?_; clear hK; simp only [go_sem, *]) | simp only [z7, z6, go_sem, *])
    refine w5 [0, 1, 2, 3] sI ?_
    simp only [go_sem, *]
    repeat' (first | (refine Qr rfl ?_; try intro _ hK; try simp only [go_sem, *]) | refine Qh rfl ?_ | refine Qd rfl (by kernel_rfl) ?_ | (refine Qc rfl rfl ?_ ?_ <;> (intro hb; have hc := hb; try simp only [go_sem] at hc)) | refine q6 rfl ?_ | (refine Qb ?_ ?_; focus kernel_rfl) | ((with_reducible apply And.intro); focus omega) | (refine z8 hK ?_; clear hK; simp only [go_sem, *]) | simp only [z7, z6, go_sem, *])
    all_goals first | contradiction | omega | skip
    exact o3 (i' := t + 1) [some 0, some 1, some 2, some 3] [] (z2) (by rw [hnx]; exact ⟨hP, hz2⟩)
   ·rw [H6 (by omega)] at hP
    subst hP
    have hji : ¬ (j : Int) < (k.length : Int) := by omega
    clear IH hz
    repeat' (first | (refine Qr rfl ?_; try intro _ hK; try simp only [go_sem, *]) | refine Qh rfl ?_ | refine Qd rfl (by kernel_rfl) ?_ | (refine Qc rfl rfl ?_ ?_ <;> (intro hb; have hc := hb; try simp only [go_sem] at hc)) | refine q6 rfl ?_ | (refine Qb ?_ ?_; focus kernel_rfl) | ((with_reducible apply And.intro); focus omega) | (refine z8 hK ?_; clear hK; simp only [go_sem, *]) | simp only [z7, z6, go_sem, *])
    all_goals first | contradiction | omega | skip
    refine ⟨[], [some 0, some 1, some 2, some 3], [], trivial, ?_⟩
    simp only [go_sem, j8, *]
  ·rw [if_neg q] at hT hs2
   have qi : ¬ (now.length : Int) < (k.length : Int) := by omega
   have hik : i = k.length := by omega
   rw [H6 (by omega)] at hT
   subst hT
   subst hik
   clear IH
   refine q7 func140 rfl (fun E hE => ?_); simp only [go_sem, ntmps140]
   repeat' (first | (refine Qr rfl ?_; try intro _ hK; try simp only [go_sem, *]) | refine Qh rfl ?_ | refine Qd rfl (by kernel_rfl) ?_ | (refine Qc rfl rfl ?_ ?_ <;> (intro hb; have hc := hb; try simp only [go_sem] at hc)) | refine q6 rfl ?_ | (refine Qb ?_ ?_; focus kernel_rfl) | ((with_reducible apply And.intro); focus omega) | (refine z8 hK ?_; clear hK; simp only [go_sem, *]) | simp only [z7, z6, go_sem, *])
   all_goals first | contradiction | omega | skip
   refine p8 rfl (1) (fun t => NoQ t) 33 (fun t => [(7, iV k.length), (0, sV now), (2, .ptr 0 0), (3, .ptr 1 0), (4, .ptr 2 0)]) (fun t => W1 k m) [some 0, some 1, some 2, some 3] [] (by trivial) ?_; intro t ht hP
   repeat' (first | (refine Qr rfl ?_; try intro _ hK; try simp only [go_sem, *]) | refine Qh rfl ?_ | refine Qd rfl (by kernel_rfl) ?_ | (refine Qc rfl rfl ?_ ?_ <;> (intro hb; have hc := hb; try simp only [go_sem] at hc)) | refine q6 rfl ?_ | (refine Qb ?_ ?_; focus kernel_rfl) | ((with_reducible apply And.intro); focus omega) | (refine z8 hK ?_; clear hK; simp only [go_sem, *]) | simp only [z7, z6, go_sem, *])
   all_goals first | contradiction | omega | skip
   refine ⟨[], [some 0, some 1, some 2, some 3], [], trivial, ?_⟩
   simp only [go_sem, j8, *]
end Go.Abs

namespace Go.Abs
open Go Go.Proofs Tryz
attribute [local irreducible] y3 Hold y7
def Bc : Nat → Nat
 | 0 => 1
 | n + 1 => 1 + (n + 1) * Bc n
theorem zDD : ∀ n, n < 13 → Bc n ≤ 2000000000 := by decide
theorem zB5 (k : Str) (m : List Str) (now : Str) : (zL5 k m now).length ≤ m.length + 1 := by
 unfold zL5 zL9
 split
 ·split
  ·omega
  ·simp
 ·omega
theorem zBS (k : Str) : ∀ (n : Nat) (m : List Str) (now : Str) (i : Nat), k.length - i ≤ n → (goC k n m now i).length ≤ m.length + Bc n
 | 0, m, now, i, _ => zB5 k m now
 | n + 1, m, now, i, h => by
  have key : ∀ (c : Nat) (i : Nat) (m : List Str), k.length - i = c → c ≤ n + 1 → (Z0 k n m now i).length ≤ m.length + c * Bc n := by
   intro c
   induction c with
   | zero => intro i m h1 _; rw [H6 (by omega)]; omega
   | succ c ih =>
    intro i m h1 h2
    rw [B5 (by omega)]
    have a := ih (i + 1) (goC k n m (now ++ [k.getD i 0]) (i + 1)) (by omega) (by omega)
    have b := zBS k n m (now ++ [k.getD i 0]) (i + 1) (by omega)
    have e : (c + 1) * Bc n = c * Bc n + Bc n := Nat.succ_mul _ _
    omega
  rw [B6]
  have a := key (k.length - i) i (zL5 k m now) rfl h
  have b := zB5 k m now
  have d : (k.length - i) * Bc n ≤ (n + 1) * Bc n := Nat.mul_le_mul_right _ h
  have e : Bc (n + 1) = 1 + (n + 1) * Bc n := rfl
  omega
theorem zA7 {k : Str} (hk : k.length ≤ 12) (hk0 : 0 < k.length) : (W3 k).length ≤ 2000000000 := by
 have a := zBS k k.length [] (k.take 1) 1 (by omega)
 have b := zDD k.length (by omega)
 have e : W3 k = goC k k.length [] (k.take 1) 1 := rfl
 rw [e]; simp only [List.length_nil] at a; omega
theorem A9 {α β : Type} (f : α → β) : ∀ (l : List α) (i : Nat), (l.eraseIdx i).map f = (l.map f).eraseIdx i
 | [], _ => rfl
 | _ :: _, 0 => rfl
 | x :: r, i + 1 => by simp [A9 f r i]
theorem zBB {α : Type} : ∀ (l : List α) (i : Nat) (h : i < l.length), l.Perm (l[i] :: l.eraseIdx i)
 | x :: r, 0, _ => .refl _
 | x :: r, i + 1, h => by
  have := zBB r i (by simpa using h)
  exact (this.cons x).trans (List.Perm.swap _ _ _)
theorem zHU (k : Str) (hk0 : 0 < k.length) (hk : k.length ≤ 12) :
  M0 (T := {L : List Str // (∀ s, s ∈ L ↔ Q9 k s) ∧ L.length ≤ 2000000000}) prog 115 [sV k] [] (fun L => .own 0 1 0 L.1.length) (fun L => [.row 1 (L.1.map sV)]) := by
 have hca : t8 prog 140 = true := by kernel_rfl
 have sc : zLn prog 140 (zA5 (k.take 1) 1) (W1 k []) (.tup []) (W1 k (W3 k)) := zCh k (by omega) k.length [] (k.take 1) 1 (by omega) (by simp; omega) (by omega) (fun x hx => by cases hx)
 have hmem := fun x => zB4 (k := k) (x := x)
 have hsm : SmallL (W3 k) := SmallL.go (fun x hx => by cases hx) (by omega) (by omega)
 have hML := zA7 hk hk0
 have hmt : (zMN prog 155).isSome = true := by kernel_rfl
 generalize W3 k = M at *
 refine zHy func115 rfl (fun E hE => ?_); simp only [go_sem, ntmps115]
 repeat' (first | (refine Qr rfl ?_; try intro _ hK; try simp only [go_sem, *]) | (refine Qi rfl rfl rfl rfl ?_ ?_ <;> (intro hb; (try intro _ hK); have hc := hb; try simp only [go_sem] at hc; simp only [go_sem, *])) | refine Qh rfl ?_ | refine Qd rfl (by kernel_rfl) ?_ | (refine Qc rfl rfl ?_ ?_ <;> (intro hb; have hc := hb; try simp only [go_sem] at hc)) | refine q6 rfl ?_ | (refine Qb ?_ ?_; focus kernel_rfl) | ((with_reducible apply And.intro); focus omega) | (refine z8 hK ?_; clear hK; simp only [go_sem, *]) | simp only [z7, z6, go_sem, *])
 refine w5 [0, 2, 3, 1] sc ?_
 simp only [go_sem, *]
 refine z8 hK ?_
 clear hK
 simp only [go_sem, *]
 repeat' (first | (refine Qr (ops := _ :: _) rfl ?_; try intro _ hK; try simp only [go_sem, *]) | (refine Qi rfl rfl rfl rfl ?_ ?_ <;> (intro hb; (try intro _ hK); have hc := hb; try simp only [go_sem] at hc; simp only [go_sem, *])) | (refine Qb ?_ ?_; focus kernel_rfl) | ((with_reducible apply And.intro); focus omega) | (refine z8 hK ?_; clear hK; simp only [go_sem, *]) | simp only [z7, z6, go_sem, *])
 refine r4 ?_
 refine Qb ?_ ?_
 focus kernel_rfl
 try simp only [z7, z6, go_sem, *]
 refine T0 (N := 24) (env := [(3, .ptr 0 0)]) (As := [.box [.fmap (M.map zLv) (M.map fun _ => bV true)]]) [some 2] [1] (by (simp only [Weak, go_sem, List.map_append, List.map_set, *] <;> (try simp (disch := omega) only [r6]) <;> (try simp) <;> (try omega))) ?_
 repeat' (first | (refine Qr rfl ?_; try intro _ hK; try simp only [go_sem, *]) | (refine Qi rfl rfl rfl rfl ?_ ?_ <;> (intro hb; (try intro _ hK); have hc := hb; try simp only [go_sem] at hc; simp only [go_sem, *])) | refine Qh rfl ?_ | refine Qd rfl (by kernel_rfl) ?_ | (refine Qc rfl rfl ?_ ?_ <;> (intro hb; have hc := hb; try simp only [go_sem] at hc)) | refine q6 rfl ?_ | (refine Qb ?_ ?_; focus kernel_rfl) | ((with_reducible apply And.intro); focus omega) | (refine z8 hK ?_; clear hK; simp only [go_sem, *]) | simp only [z7, z6, go_sem, *])
 clear sc hsm
 refine K1 rfl (M.length) (fun i (cur : Option (Value × AV)) (S : List Str × List Str) => S.1.length + i = M.length ∧ S.2.length = i ∧ ∀ x, (x ∈ S.2 ∨ x ∈ S.1) ↔ x ∈ M) 24 (fun i cur S => [(14, .ptr 0 0), (5, .own 1 1 0 i)]) (fun i cur S => [.iter cur (S.1.map zLv) (S.1.map fun _ => bV true), .row 1 (S.2.map sV)]) [some 1, none] [] (none) ((M, [])) (by exact ⟨by simp, rfl, fun x => by simp⟩) ?_; intro i cur S hi hP
 obtain ⟨rem, acc⟩ := S
 simp only at hP ⊢
 refine F6 rfl ?_
 refine zGl (o := 0) rfl rfl rfl rfl rfl rfl rfl cur (rem.map zLv) (rem.map fun _ => bV true) (by simp only [go_sem]) (by simp only [go_sem]) (show (15 : Nat) < 24 by decide) (show (16 : Nat) < 24 by decide) (fun hk0 _ => ?_) (fun r hr1 hr2 => ?_)
 ·obtain rfl : rem = [] := by simpa using hk0
  obtain ⟨h1, h2, h3⟩ := hP
  have hL : ∀ s, s ∈ acc ↔ Q9 k s := fun s => by rw [← hmem, ← h3]; simp
  have hLl : acc.length ≤ 2000000000 := by simp only [List.length_nil] at h1; omega
  clear hmem h3
  simp only [go_sem]
  repeat' (first | (refine Qr rfl ?_; try intro _ hK; try simp only [go_sem, *]) | (refine Qi rfl rfl rfl rfl ?_ ?_ <;> (intro hb; (try intro _ hK); have hc := hb; try simp only [go_sem] at hc; simp only [go_sem, *])) | refine Qh rfl ?_ | refine Qd rfl (by kernel_rfl) ?_ | (refine Qc rfl rfl ?_ ?_ <;> (intro hb; have hc := hb; try simp only [go_sem] at hc)) | refine q6 rfl ?_ | (refine Qb ?_ ?_; focus kernel_rfl) | ((with_reducible apply And.intro); focus omega) | (refine z8 hK ?_; clear hK; simp only [go_sem, *]) | simp only [z7, z6, go_sem, *])
  all_goals try contradiction
  refine ⟨⟨acc, hL, hLl⟩, [_], [some 1], [], ⟨rfl, trivial⟩, ?_⟩
  simp only [go_sem, *]
 ·have hr : r < rem.length := by simpa using hr1
  have e1 : (rem.map zLv)[r] = zLv rem[r] := by simp
  have e2 : (rem.map fun _ => bV true)[r] = bV true := by simp
  have e3 : (rem.map zLv).eraseIdx r = (rem.eraseIdx r).map zLv := (A9 zLv rem r).symm
  have e4 : (rem.map fun _ => bV true).eraseIdx r = (rem.eraseIdx r).map fun _ => bV true := (A9 _ rem r).symm
  rw [e1, e2, e3, e4]
  have hq : (rem[r] :: rem.eraseIdx r).Perm rem := (zBB rem r hr).symm
  have hel : (rem.eraseIdx r).length = rem.length - 1 := List.length_eraseIdx_of_lt hr
  clear e1 e2 e3 e4
  generalize rem.eraseIdx r = rem' at *
  generalize rem[r] = x at *
  obtain ⟨h1, h2, h3⟩ := hP
  have hP2 : rem'.length + (i + 1) = M.length ∧ (acc ++ [x]).length = i + 1 ∧ ∀ z, (z ∈ acc ++ [x] ∨ z ∈ rem') ↔ z ∈ M := ⟨by omega, by simp [h2], fun z => by
   rw [← h3, ← hq.mem_iff]; simp [or_assoc]⟩
  have hil : i < M.length := by omega
  clear hmem h1 h3 hq hel hr hr1 hr2
  simp only [go_sem]
  repeat' (first | (refine Qr rfl ?_; try intro _ hK; try simp only [go_sem, *]) | (refine Qi rfl rfl rfl rfl ?_ ?_ <;> (intro hb; (try intro _ hK); have hc := hb; try simp only [go_sem] at hc; simp only [go_sem, *])) | refine Qh rfl ?_ | refine Qd rfl (by kernel_rfl) ?_ | (refine Qc rfl rfl ?_ ?_ <;> (intro hb; have hc := hb; try simp only [go_sem] at hc)) | refine q6 rfl ?_ | (refine Qb ?_ ?_; focus kernel_rfl) | ((with_reducible apply And.intro); focus omega) | (refine z8 hK ?_; clear hK; simp only [go_sem, *]) | simp only [z7, z6, go_sem, *])
  all_goals try contradiction
  exact Q4 (i' := i + 1) [some 0, some 3] [] ((some (zLv x, bV true))) ((rem', acc ++ [x])) (by exact hP2)
end Go.Abs

namespace Go.Abs
open Go Go.Proofs Tryz
attribute [local irreducible] y3 Hold y7
def zM7 : Bool → Value
 | true => .func (.func 80) #[] #[]
 | false => .func (.func 83) #[] #[]
abbrev zMH (up : Bool) : AV := .raw (zM7 up)
def zMm (up : Bool) (a b : Nat) : Int := if up = true then (a : Int) - b else (b : Int) - a
theorem zDl (up : Bool) (a b : Str) : zLt up a b = orI (zMm up a.length b.length) (zLq a b) := rfl
theorem zHl (a b : Nat) (ha : a ≤ 1000) (hb1 : b ≤ 1000) : zLn prog 80 [iV a, iV b] [] (iV ((a : Int) - b)) [] := by
 have hw : IntKind.i64.wrap ((a : Int) - b) = (a : Int) - b := wrap_i64 (by omega) (by omega)
 refine q7 func80 rfl (fun E hE => ?_); simp only [go_sem, ntmps80]
 repeat' (first | (refine Qr rfl ?_; try intro _ hK; try simp only [go_sem, *]) | refine Qh rfl ?_ | (refine Qc rfl rfl ?_ ?_ <;> (intro hb; have hc := hb; try simp only [go_sem] at hc)) | refine q6 rfl ?_ | ((with_reducible apply And.intro); focus omega) | (refine z8 hK ?_; clear hK; simp only [go_sem, *]) | simp only [z7, z6, go_sem, *])
 (refine ⟨[_], [], [], ⟨rfl, trivial⟩, ?_⟩; simp only [go_sem, *])
theorem zHk (a b : Nat) (ha : a ≤ 1000) (hb1 : b ≤ 1000) : zLn prog 83 [iV a, iV b] [] (iV ((b : Int) - a)) [] := by
 have hw : IntKind.i64.wrap ((b : Int) - a) = (b : Int) - a := wrap_i64 (by omega) (by omega)
 refine q7 func83 rfl (fun E hE => ?_); simp only [go_sem, ntmps83]
 repeat' (first | (refine Qr rfl ?_; try intro _ hK; try simp only [go_sem, *]) | refine Qh rfl ?_ | (refine Qc rfl rfl ?_ ?_ <;> (intro hb; have hc := hb; try simp only [go_sem] at hc)) | refine q6 rfl ?_ | ((with_reducible apply And.intro); focus omega) | (refine z8 hK ?_; clear hK; simp only [go_sem, *]) | simp only [z7, z6, go_sem, *])
 (refine ⟨[_], [], [], ⟨rfl, trivial⟩, ?_⟩; simp only [go_sem, *])
theorem zHT (up : Bool) (a b : Str) (ha : a.length ≤ 1000) (hb1 : b.length ≤ 1000) : zLn prog 118 [sV a, sV b, .ptr 0 0] [.box [zMH up]] (iV (zLt up a b)) [.box [zMH up]] := by
 have s1 := zHl a.length b.length ha hb1
 have s2 := zHk a.length b.length ha hb1
 have s3 := zCY a b
 have so := zCe [zMm up a.length b.length, zLq a b] (by simp)
 rw [zCE] at so
 rw [zDl]
 have hca : t8 prog 80 = true := by kernel_rfl
 have hcb : t8 prog 83 = true := by kernel_rfl
 cases up
 ·have e : zMm false a.length b.length = (b.length : Int) - a.length := rfl
  have ex : zMH false = .raw (.func (.func 83) #[] #[]) := rfl
  rw [e] at so ⊢
  rw [ex]
  generalize (b.length : Int) - a.length = n at *
  generalize zLq a b = c at *
  generalize orI n c = r at *
  clear e ex s1
  refine q7 func118 rfl (fun E hE => ?_); simp only [go_sem, ntmps118]
  repeat' (first | (refine Qr rfl ?_; try intro _ hK; try simp only [go_sem, *]) | refine Qh rfl ?_ | (refine Qc rfl rfl ?_ ?_ <;> (intro hb; have hc := hb; try simp only [go_sem] at hc)) | refine q6 rfl ?_ | (refine y8 (s2) ?_ ?_; (focus (simp only [go_sem, *]; done)); simp only [go_sem, *]) | (refine y8 (s3) ?_ ?_; (focus (simp only [go_sem, *]; done)); simp only [go_sem, *]) | ((with_reducible apply And.intro); focus omega) | (refine z8 hK ?_; clear hK; simp only [go_sem, *]) | simp only [z7, z6, go_sem, *])
  (refine X9 [1] (so) (by simp only [go_sem, *]) (.raw _) ?_; simp only [go_sem, *])
  repeat' (first | (refine Qr rfl ?_; try intro _ hK; try simp only [go_sem, *]) | refine Qh rfl ?_ | (refine Qc rfl rfl ?_ ?_ <;> (intro hb; have hc := hb; try simp only [go_sem] at hc)) | refine q6 rfl ?_ | ((with_reducible apply And.intro); focus omega) | (refine z8 hK ?_; clear hK; simp only [go_sem, *]) | simp only [z7, z6, go_sem, *])
  refine ⟨[_], [some 0], [], ⟨rfl, trivial⟩, ?_⟩
  simp only [go_sem, *]
 ·have e : zMm true a.length b.length = (a.length : Int) - b.length := rfl
  have ex : zMH true = .raw (.func (.func 80) #[] #[]) := rfl
  rw [e] at so ⊢
  rw [ex]
  generalize (a.length : Int) - b.length = n at *
  generalize zLq a b = c at *
  generalize orI n c = r at *
  clear e ex s2
  refine q7 func118 rfl (fun E hE => ?_); simp only [go_sem, ntmps118]
  repeat' (first | (refine Qr rfl ?_; try intro _ hK; try simp only [go_sem, *]) | refine Qh rfl ?_ | (refine Qc rfl rfl ?_ ?_ <;> (intro hb; have hc := hb; try simp only [go_sem] at hc)) | refine q6 rfl ?_ | (refine y8 (s1) ?_ ?_; (focus (simp only [go_sem, *]; done)); simp only [go_sem, *]) | (refine y8 (s3) ?_ ?_; (focus (simp only [go_sem, *]; done)); simp only [go_sem, *]) | ((with_reducible apply And.intro); focus omega) | (refine z8 hK ?_; clear hK; simp only [go_sem, *]) | simp only [z7, z6, go_sem, *])
  (refine X9 [1] (so) (by simp only [go_sem, *]) (.raw _) ?_; simp only [go_sem, *])
  repeat' (first | (refine Qr rfl ?_; try intro _ hK; try simp only [go_sem, *]) | refine Qh rfl ?_ | (refine Qc rfl rfl ?_ ?_ <;> (intro hb; have hc := hb; try simp only [go_sem] at hc)) | refine q6 rfl ?_ | ((with_reducible apply And.intro); focus omega) | (refine z8 hK ?_; clear hK; simp only [go_sem, *]) | simp only [z7, z6, go_sem, *])
  refine ⟨[_], [some 0], [], ⟨rfl, trivial⟩, ?_⟩
  simp only [go_sem, *]
noncomputable def zBH : Code := sub [0, 1, 0, 1, 1, 1] (X8 Tryz.f116)
noncomputable def R9 (fn : FuncId) : LoopK := ⟨fn, #[10], O9 zBH, N0 zBH, 23⟩
def zAv : Option Str → AV
 | none => sV []
 | some c => sV c
@[go_sem] theorem zI9 : zAv none = .raw (.string ⟨#[]⟩) := rfl
@[go_sem] theorem zJA (c : Str) : zAv (some c) = sV c := rfl
def c6 : Option Str → Value
 | none => .string ⟨#[]⟩
 | some c => .string ⟨c.toArray⟩
abbrev zDw : AV := .fn 118 [.ptr 4 0]
noncomputable abbrev e9 (fn : FuncId) (up : Bool) (B : Option Str) : List AObj := [.loopo (R9 fn) [(3, .ptr 1 0), (6, .ptr 2 0), (7, .ptr 3 0)] (some none), .box [zDw], .box [.raw (c6 B)], .box [bV B.isSome], .box [zMH up]]
theorem zIX (fn : FuncId) (up : Bool) (c : Str) : i4 prog [sV c] (e9 fn up none) (bV true) (e9 fn up (some c)) := by
 simp only [e9, c6, Option.isSome_none, Option.isSome_some]
 refine S5 (L := R9 fn) (env := [(3, .ptr 1 0), (6, .ptr 2 0), (7, .ptr 3 0)]) (j := none) rfl rfl (fun E l hE => ?_)
 refine o8 rfl ?_
 simp only [R9, i9, go_sem]
 repeat' (first | (refine Qr (ops := _ :: _) rfl ?_; try intro _ hK; try simp only [go_sem, *]) | (refine Qi rfl rfl rfl rfl ?_ ?_ <;> (intro hb; (try intro _ hK); have hc := hb; try simp only [go_sem] at hc; simp only [go_sem, *])) | (refine Qb ?_ ?_; focus kernel_rfl) | ((with_reducible apply And.intro); focus omega) | (refine z8 hK ?_; clear hK; simp only [go_sem, *]) | simp only [z7, z6, go_sem, *])
 refine r4 ?_
 refine ⟨by simp only [go_sem], ?_⟩
 refine T6 (id := 1) rfl ?_
 refine Z5 rfl ?_
 refine o8 rfl ?_
 simp only [go_sem]
 repeat' (first | (refine Qr (ops := _ :: _) rfl ?_; try intro _ hK; try simp only [go_sem, *]) | (refine Qi rfl rfl rfl rfl ?_ ?_ <;> (intro hb; (try intro _ hK); have hc := hb; try simp only [go_sem] at hc; simp only [go_sem, *])) | (refine Qb ?_ ?_; focus kernel_rfl) | ((with_reducible apply And.intro); focus omega) | (refine z8 hK ?_; clear hK; simp only [go_sem, *]) | simp only [z7, z6, go_sem, *])
 refine r4 ?_
 refine V6 (t := true) rfl (by simp only [go_sem]) (fun _ => ?_) (fun h => by cases h)
 refine o8 rfl ?_
 simp only [go_sem]
 repeat' (first | (refine Qr (ops := _ :: _) rfl ?_; try intro _ hK; try simp only [go_sem, *]) | (refine Qi rfl rfl rfl rfl ?_ ?_ <;> (intro hb; (try intro _ hK); have hc := hb; try simp only [go_sem] at hc; simp only [go_sem, *])) | (refine Qb ?_ ?_; focus kernel_rfl) | ((with_reducible apply And.intro); focus omega) | (refine z8 hK ?_; clear hK; simp only [go_sem, *]) | simp only [z7, z6, go_sem, *])
 refine r4 ?_
 simp only [z6, go_sem]
 refine ⟨rfl, [some 0, some 1, some 2, some 3, some 4], [], ?_⟩
 simp only [go_sem, *]
theorem zIY (fn : FuncId) (up : Bool) (b c : Str) (hb1 : b.length ≤ 1000) (hc1 : c.length ≤ 1000) : i4 prog [sV c] (e9 fn up (some b)) (bV true) (e9 fn up (some (if zLt up c b < 0 then c else b))) := by
 have hca : t8 prog 118 = true := by kernel_rfl
 have sc := zHT up c b hc1 hb1
 simp only [e9, c6, Option.isSome_none, Option.isSome_some]
 refine S5 (L := R9 fn) (env := [(3, .ptr 1 0), (6, .ptr 2 0), (7, .ptr 3 0)]) (j := none) rfl rfl (fun E l hE => ?_)
 refine o8 rfl ?_
 simp only [R9, i9, go_sem]
 repeat' (first | (refine Qr (ops := _ :: _) rfl ?_; try intro _ hK; try simp only [go_sem, *]) | (refine Qi rfl rfl rfl rfl ?_ ?_ <;> (intro hb; (try intro _ hK); have hc := hb; try simp only [go_sem] at hc; simp only [go_sem, *])) | (refine Qb ?_ ?_; focus kernel_rfl) | ((with_reducible apply And.intro); focus omega) | (refine z8 hK ?_; clear hK; simp only [go_sem, *]) | simp only [z7, z6, go_sem, *])
 refine r4 ?_
 refine ⟨by simp only [go_sem], ?_⟩
 refine T6 (id := 1) rfl ?_
 refine Z5 rfl ?_
 refine o8 rfl ?_
 simp only [go_sem]
 repeat' (first | (refine Qr (ops := _ :: _) rfl ?_; try intro _ hK; try simp only [go_sem, *]) | (refine Qi rfl rfl rfl rfl ?_ ?_ <;> (intro hb; (try intro _ hK); have hc := hb; try simp only [go_sem] at hc; simp only [go_sem, *])) | (refine Qb ?_ ?_; focus kernel_rfl) | ((with_reducible apply And.intro); focus omega) | (refine z8 hK ?_; clear hK; simp only [go_sem, *]) | simp only [z7, z6, go_sem, *])
 refine w5 [4] sc ?_
 simp only [go_sem]
 repeat' (first | (refine Qr (ops := _ :: _) rfl ?_; try intro _ hK; try simp only [go_sem, *]) | (refine Qi rfl rfl rfl rfl ?_ ?_ <;> (intro hb; (try intro _ hK); have hc := hb; try simp only [go_sem] at hc; simp only [go_sem, *])) | (refine Qb ?_ ?_; focus kernel_rfl) | ((with_reducible apply And.intro); focus omega) | (refine z8 hK ?_; clear hK; simp only [go_sem, *]) | simp only [z7, z6, go_sem, *])
 refine r4 ?_
 refine V6 (t := decide (zLt up c b < 0)) rfl (by simp only [go_sem]) (fun h => ?_) (fun h => ?_)
 ·rw [if_pos (by simpa using h)]
  refine o8 rfl ?_
  simp only [go_sem]
  repeat' (first | (refine Qr (ops := _ :: _) rfl ?_; try intro _ hK; try simp only [go_sem, *]) | (refine Qi rfl rfl rfl rfl ?_ ?_ <;> (intro hb; (try intro _ hK); have hc := hb; try simp only [go_sem] at hc; simp only [go_sem, *])) | (refine Qb ?_ ?_; focus kernel_rfl) | ((with_reducible apply And.intro); focus omega) | (refine z8 hK ?_; clear hK; simp only [go_sem, *]) | simp only [z7, z6, go_sem, *])
  refine r4 ?_
  simp only [z6, go_sem]
  refine ⟨rfl, [some 0, some 1, some 2, some 3, some 4], [], ?_⟩
  simp only [go_sem, *]
 ·rw [if_neg (by simpa using h)]
  refine J0 rfl ?_
  simp only [z6, go_sem]
  refine ⟨rfl, [some 0, some 1, some 2, some 3, some 4], [], ?_⟩
  simp only [go_sem, *]
theorem zIW (fn : FuncId) (up : Bool) (B : Option Str) (c : Str) (hb1 : ∀ b, B = some b → b.length ≤ 1000) (hc1 : c.length ≤ 1000) : i4 prog [sV c] (e9 fn up B) (bV true) (e9 fn up (y9 (zLt up) B [c])) := by
 cases B with
 | none => exact zIX fn up c
 | some b =>
  have := zIY fn up b c (hb1 b rfl) hc1
  rw [zBI]
  by_cases h : zLt up c b < 0
  ·simp only [if_pos h] at this ⊢; exact this
  ·simp only [if_neg h] at this ⊢; exact this
end Go.Abs

namespace Go.Abs
open Go Go.Proofs Tryz
attribute [local irreducible] y3 Hold y7
theorem zHP (fn : FuncId) (up : Bool) (L : List Str) (B : Option Str) (hL : L.length ≤ 2000000000) (hs : ∀ s, s ∈ L → s.length ≤ 1000) (hB : ∀ b, B = some b → b.length ≤ 1000) :
  zLn prog 141 [.yld 0, .ptr 5 0] (e9 fn up B ++ [.box [y4 L]]) (.tup []) (e9 fn up (y9 (zLt up) B L) ++ [.box [y4 L]]) := by
 obtain ⟨T, hT⟩ : ∃ T, y9 (zLt up) B L = T := ⟨_, rfl⟩
 rw [hT]
 have h0 : y9 (zLt up) B (L.drop 0) = T := hT
 clear hT
 simp only [e9, List.cons_append, List.nil_append]
 refine q7 func141 rfl (fun E hE => ?_); simp only [go_sem, ntmps141]
 repeat' (first | (refine Qr rfl ?_; try intro _ hK; try simp only [go_sem, *]) | refine Qh rfl ?_ | (refine Qc rfl rfl ?_ ?_ <;> (intro hb; have hc := hb; try simp only [go_sem] at hc)) | refine q6 rfl ?_ | ((with_reducible apply And.intro); focus omega) | (refine z8 hK ?_; clear hK; simp only [go_sem, *]) | simp only [z7, z6, go_sem, *])
 refine b6 rfl (L.length) (fun i (Z : Option Str) => y9 (zLt up) Z (L.drop i) = T ∧ ∀ b, Z = some b → b.length ≤ 1000) 16 (fun i Z => [(7, iV i), (6, iV L.length), (5, y4 L), (0, .yld 0)]) (fun i Z => e9 fn up Z ++ [.box [y4 L]]) [some 0, some 1, some 2, some 3, some 4, some 5] [] (B) (by exact ⟨h0, hB⟩) ?_; intro i Z hi hP
 obtain ⟨hP, hZ⟩ := hP
 by_cases hi2 : i < L.length
 ·have hcl := hs _ (l4 hi2)
  rw [l8 hi2] at hP
  have hP : y9 (zLt up) (y9 (zLt up) Z [L.getD i default]) (L.drop (i + 1)) = T := by rw [← hP, ← M9]; rfl
  have hy := zIW fn up Z (L.getD i default) hZ hcl
  have hZ2 : ∀ b, y9 (zLt up) Z [L.getD i default] = some b → b.length ≤ 1000 := fun b hb2 => by
   rcases L0 hb2 with h | h
   ·exact hZ b h
   ·rw [List.mem_singleton.1 h]; exact hcl
  generalize y9 (zLt up) Z [L.getD i default] = Z2 at *
  clear h0 hB hs hZ hcl
  repeat' (first | ((refine J5 2 rfl rfl rfl ?_; simp only [List.take_succ_cons, List.take_zero, List.drop_succ_cons, List.drop_zero])) | (refine Qr rfl ?_; try intro _ hK; try simp only [go_sem, *]) | refine Qh rfl ?_ | (refine Qc rfl rfl ?_ ?_ <;> (intro hb; have hc := hb; try simp only [go_sem] at hc)) | refine q6 rfl ?_ | ((with_reducible apply And.intro); focus omega) | (refine z8 hK ?_; clear hK; simp only [go_sem, *]) | simp only [z7, z6, go_sem, *])
  all_goals first | contradiction | omega | skip
  refine zBW rfl ?_
  refine E4 [0, 1, 2, 3, 4] [] hy rfl rfl (by simp) (by simp only [go_sem]) (by simp only [go_sem]) (by simp) (.inl rfl) (by simp [go_sem]) (by simp [go_sem]) ?_
  simp only [go_sem]
  repeat' (first | (refine Qr rfl ?_; try intro _ hK; try simp only [go_sem, *]) | refine Qh rfl ?_ | (refine Qc rfl rfl ?_ ?_ <;> (intro hb; have hc := hb; try simp only [go_sem] at hc)) | refine q6 rfl ?_ | ((with_reducible apply And.intro); focus omega) | (refine z8 hK ?_; clear hK; simp only [go_sem, *]) | simp only [z7, z6, go_sem, *])
  all_goals first | contradiction | omega | skip
  exact o3 (i' := i + 1) [some 0, some 1, some 2, some 3, some 4, some 5] [] (Z2) (by exact ⟨hP, hZ2⟩)
 ·rw [c9 (by omega)] at hP
  have hP : Z = T := by cases Z <;> exact hP
  subst hP
  clear h0 hB hs hZ
  repeat' (first | (refine Qr rfl ?_; try intro _ hK; try simp only [go_sem, *]) | refine Qh rfl ?_ | (refine Qc rfl rfl ?_ ?_ <;> (intro hb; have hc := hb; try simp only [go_sem] at hc)) | refine q6 rfl ?_ | ((with_reducible apply And.intro); focus omega) | (refine z8 hK ?_; clear hK; simp only [go_sem, *]) | simp only [z7, z6, go_sem, *])
  all_goals first | contradiction | omega | skip
  refine ⟨[], [some 0, some 1, some 2, some 3, some 4, some 5], [], trivial, ?_⟩
  simp only [go_sem, j8, *]
theorem zHO (L : List Str) : zLn prog 117 [y4 L] [] (.fn 141 [.ptr 0 0]) [.box [y4 L]] := by
 refine q7 func117 rfl (fun E hE => ?_); simp only [go_sem, ntmps117]
 repeat' (first | (refine Qr rfl ?_; try intro _ hK; try simp only [go_sem, *]) | refine Qh rfl ?_ | (refine Qc rfl rfl ?_ ?_ <;> (intro hb; have hc := hb; try simp only [go_sem] at hc)) | refine q6 rfl ?_ | ((with_reducible apply And.intro); focus omega) | (refine z8 hK ?_; clear hK; simp only [go_sem, *]) | simp only [z7, z6, go_sem, *])
 refine ⟨[_], [some 0], [], ⟨rfl, trivial⟩, ?_⟩
 simp only [go_sem, *]
theorem zHW (up : Bool) (L : List Str) (hL : L.length ≤ 2000000000) (hs : ∀ s, s ∈ L → s.length ≤ 1000) :
  zLn prog 116 [.fn 141 [.ptr 0 0], .fn 118 [.ptr 1 0]] [.box [y4 L], .box [zMH up]] (.tup [.raw (c6 (b4 (zLt up) L)), bV (b4 (zLt up) L).isSome]) [.box [y4 L], .box [zMH up]] := by
 have s1 := fun fn => zHP fn up L none hL hs (fun b h => by cases h)
 have e : b4 (zLt up) L = y9 (zLt up) none L := rfl
 rw [e]
 generalize y9 (zLt up) none L = B at *
 clear hs e
 simp only [e9, List.cons_append, List.nil_append, show c6 none = .string ⟨#[]⟩ from rfl, Option.isSome_none] at s1
 refine q7 func116 rfl (fun E hE => ?_); simp only [go_sem, ntmps116]
 repeat' (first | (refine Qr rfl ?_; try intro _ hK; try simp only [go_sem, *]) | refine Qh rfl ?_ | refine Qd rfl (by kernel_rfl) ?_ | (refine Qc rfl rfl ?_ ?_ <;> (intro hb; have hc := hb; try simp only [go_sem] at hc)) | refine q6 rfl ?_ | (refine Qb ?_ ?_; focus kernel_rfl) | ((with_reducible apply And.intro); focus omega) | (refine z8 hK ?_; clear hK; simp only [go_sem, *]) | simp only [z7, z6, go_sem, *])
 refine T0 (N := 23) (env := [(9, .fn 141 [.ptr 0 0]), (3, .ptr 2 0), (6, .ptr 3 0), (7, .ptr 4 0)]) (As := [.box [y4 L], .box [zMH up], .box [.fn 118 [.ptr 1 0]], .box [sV []], .box [bV false]]) [some 0, some 1, some 2, some 3, some 4] [] (by (simp only [Weak, go_sem, List.map_append, List.map_set, *] <;> (try simp (disch := omega) only [r6]) <;> (try simp) <;> (try omega))) ?_
 refine F5 (f := 141) (caps := [.ptr 0 0]) rfl (by simp only [go_sem]) (by kernel_rfl) (nx := 5) (by simp only [go_sem]) (fun fn => ⟨6, ?_⟩)
 refine u9 [5, 2, 3, 4, 1, 0] [] (s1 fn) (by simp) (by simp only [go_sem]) ?_ (by simp) (.inl rfl) (by simp [go_sem]) (by simp [go_sem]) ?_
 ·simp only [go_sem, *]
  first | rfl | exact ⟨rfl, rfl⟩
 ·simp only [go_sem, *]
  refine ⟨R9 fn, [(3, .ptr 2 0), (6, .ptr 3 0), (7, .ptr 4 0)], none, by simp only [go_sem], ?_⟩
  simp only [go_sem]
  repeat' (first | (refine Qr rfl ?_; try intro _ hK; try simp only [go_sem, *]) | refine Qh rfl ?_ | refine Qd rfl (by kernel_rfl) ?_ | (refine Qc rfl rfl ?_ ?_ <;> (intro hb; have hc := hb; try simp only [go_sem] at hc)) | refine q6 rfl ?_ | (refine Qb ?_ ?_; focus kernel_rfl) | ((with_reducible apply And.intro); focus omega) | (refine z8 hK ?_; clear hK; simp only [go_sem, *]) | simp only [z7, z6, go_sem, *])
  refine ⟨[_, _], [some 0, some 1], [], ⟨rfl, rfl, trivial⟩, ?_⟩
  simp only [go_sem, *]
end Go.Abs

namespace Go.Abs
open Go Go.Proofs Tryz
attribute [local irreducible] y3 Hold y7
def okC (l : List Str) (own : Str) (most : Int) (s : Str) : Bool := decide ((s.length : Int) ≤ most) && !i6 s l own
theorem zCg (l : List Str) (own : Str) (most : Int) (up : Bool) (hv : ∀ s, s ∈ l → ValidN s) (hl : l.length ≤ 1000) (ho0 : 0 < own.length) (ho : own.length ≤ 12) (_hm : -1000 ≤ most ∧ most ≤ 1000) :
  zLn prog 79 [y4 l, sV own, iV most, zMH up] [] (.tup [.raw (c6 (zL1 l own most up)), bV (zL1 l own most up).isSome]) [] := by
 have hca : t8 prog 114 = true := by kernel_rfl
 have hcb : t8 prog 115 = true := by kernel_rfl
 have sc := zHU own ho0 ho
 have sm := fun k h0 h1 => zHj k own l h0 h1 hv hl
 refine q7 func79 rfl (fun E hE => ?_); simp only [go_sem, ntmps79]
 repeat' (first | ((refine zGg 1 rfl rfl rfl hcb rfl ?_; simp only [List.take_succ_cons, List.take_zero, List.drop_succ_cons, List.drop_zero])) | (refine Qr rfl ?_; try intro _ hK; try simp only [go_sem, *]) | (refine Qi rfl rfl rfl rfl ?_ ?_ <;> (intro hb; (try intro _ hK); have hc := hb; try simp only [go_sem] at hc; simp only [go_sem, *])) | refine Qh rfl ?_ | (refine Qc rfl rfl ?_ ?_ <;> (intro hb; have hc := hb; try simp only [go_sem] at hc)) | refine q6 rfl ?_ | ((with_reducible apply And.intro); focus omega) | (refine z8 hK ?_; clear hK; simp only [go_sem, *]) | simp only [z7, z6, go_sem, *])
 refine zDL ⟨W3 own, fun s => zB4, zA7 ho ho0⟩ [] [] sc (by simp) (by simp only [go_sem]) trivial (by simp) (.inl rfl) (by simp [go_sem]) (by simp [go_sem]) (fun L => ?_)
 obtain ⟨L, hLm, hLl⟩ := L
 simp only [go_sem]
 clear sc
 obtain ⟨F, hF⟩ : ∃ F, L.filter (okC l own most) = F := ⟨_, rfl⟩
 have hcut : b4 (zLt up) F = zL1 l own most up := zDy (fun s => by
  rw [← hF, List.mem_filter, hLm]
  unfold okC S7
  simp only [Bool.and_eq_true, decide_eq_true_eq, Bool.not_eq_true'])
 have hFs : ∀ s, s ∈ F → s.length ≤ 1000 := fun s hs => by
  rw [← hF, List.mem_filter, hLm] at hs
  obtain ⟨⟨t, _, _, h⟩, _⟩ := hs
  omega
 have h0 : [] ++ (L.drop 0).filter (okC l own most) = F := hF
 rw [← hcut]
 have hFl : F.length ≤ 2000000000 := by rw [← hF]; exact Nat.le_trans (List.length_filter_le _ _) hLl
 have hLs : ∀ s, s ∈ L → 0 < s.length ∧ s.length ≤ 12 := fun s hs => by
  have h := (hLm s).1 hs
  have h1 := zFL h
  obtain ⟨t, _, _, h⟩ := h
  omega
 clear hF hcut hLm
 repeat' (first | (refine Qr rfl ?_; try intro _ hK; try simp only [go_sem, *]) | (refine Qi rfl rfl rfl rfl ?_ ?_ <;> (intro hb; (try intro _ hK); have hc := hb; try simp only [go_sem] at hc; simp only [go_sem, *])) | refine Qh rfl ?_ | (refine Qc rfl rfl ?_ ?_ <;> (intro hb; have hc := hb; try simp only [go_sem] at hc)) | refine q6 rfl ?_ | ((with_reducible apply And.intro); focus omega) | (refine z8 hK ?_; clear hK; simp only [go_sem, *]) | simp only [z7, z6, go_sem, *])
 refine b6 rfl (L.length) (fun i (acc : List Str) => acc ++ (L.drop i).filter (okC l own most) = F) 43 (fun i acc => [(17, iV i), (16, iV L.length), (15, .own 1 1 0 L.length), (10, .own 2 1 0 acc.length), (11, fnV 114), (7, .ptr 0 0), (0, y4 l), (1, sV own), (2, iV most)]) (fun i acc => [.box [zMH up], .row 1 (L.map sV), .row 1 (acc.map sV)]) [some 0, some 1, none] [] ([]) (by exact h0) ?_; intro i acc hi hP
 clear h0
 by_cases hi2 : i < L.length
 ·obtain ⟨hx0, hx1⟩ := hLs _ (l4 hi2)
  have s1 := sm _ hx0 (by omega)
  have hal : acc.length ≤ 2000000000 := by
   have := congrArg List.length hP
   rw [List.length_append] at this
   omega
  rw [l8 hi2, List.filter_cons, show okC l own most (L.getD i default) = (decide (((L.getD i default).length : Int) ≤ most) && !i6 (L.getD i default) l own) from rfl] at hP
  generalize hxe : L.getD i default = x at *
  generalize i6 x l own = b at *
  clear sm hLs hv
  by_cases q : (x.length : Int) ≤ most
  ·cases b
   ·rw [decide_eq_true q] at hP
    have hP : (acc ++ [x]) ++ (L.drop (i + 1)).filter (okC l own most) = F := by rw [← hP]; simp
    repeat' (first | (refine Qr rfl ?_; try intro _ hK; try simp only [go_sem, *]) | (refine Qi rfl rfl rfl rfl ?_ ?_ <;> (intro hb; (try intro _ hK); have hc := hb; try simp only [go_sem] at hc; simp only [go_sem, *])) | refine Qh rfl ?_ | (refine Qc rfl rfl ?_ ?_ <;> (intro hb; have hc := hb; try simp only [go_sem] at hc)) | refine q6 rfl ?_ | (refine q9 (s1) ?_; simp only [go_sem, *]) | ((with_reducible apply And.intro); focus omega) | (refine z8 hK ?_; clear hK; simp only [go_sem, *]) | simp only [z7, z6, go_sem, *])
    all_goals first | contradiction | omega | skip
    exact o3 (i' := i + 1) [some 0, some 1, some 4] [] (acc ++ [x]) (by exact hP)
   ·rw [decide_eq_true q] at hP
    have hP : acc ++ (L.drop (i + 1)).filter (okC l own most) = F := hP
    repeat' (first | (refine Qr rfl ?_; try intro _ hK; try simp only [go_sem, *]) | (refine Qi rfl rfl rfl rfl ?_ ?_ <;> (intro hb; (try intro _ hK); have hc := hb; try simp only [go_sem] at hc; simp only [go_sem, *])) | refine Qh rfl ?_ | (refine Qc rfl rfl ?_ ?_ <;> (intro hb; have hc := hb; try simp only [go_sem] at hc)) | refine q6 rfl ?_ | (refine q9 (s1) ?_; simp only [go_sem, *]) | ((with_reducible apply And.intro); focus omega) | (refine z8 hK ?_; clear hK; simp only [go_sem, *]) | simp only [z7, z6, go_sem, *])
    all_goals first | contradiction | omega | skip
    exact o3 (i' := i + 1) [some 0, some 1, some 2] [] (acc) (by exact hP)
  ·rw [decide_eq_false q] at hP
   have hP : acc ++ (L.drop (i + 1)).filter (okC l own most) = F := hP
   repeat' (first | (refine Qr rfl ?_; try intro _ hK; try simp only [go_sem, *]) | (refine Qi rfl rfl rfl rfl ?_ ?_ <;> (intro hb; (try intro _ hK); have hc := hb; try simp only [go_sem] at hc; simp only [go_sem, *])) | refine Qh rfl ?_ | (refine Qc rfl rfl ?_ ?_ <;> (intro hb; have hc := hb; try simp only [go_sem] at hc)) | refine q6 rfl ?_ | (refine q9 (s1) ?_; simp only [go_sem, *]) | ((with_reducible apply And.intro); focus omega) | (refine z8 hK ?_; clear hK; simp only [go_sem, *]) | simp only [z7, z6, go_sem, *])
   all_goals first | contradiction | omega | skip
   exact o3 (i' := i + 1) [some 0, some 1, some 2] [] (acc) (by exact hP)
 ·rw [c9 (by omega)] at hP
  have hP : acc = F := by rw [← hP]; simp
  subst hP
  clear sm hLs hv
  have sV1 := zHO acc
  have sF := zHW up acc hFl hFs
  generalize b4 (zLt up) acc = o at *
  clear hFs
  repeat' (first | (refine Qr rfl ?_; try intro _ hK; try simp only [go_sem, *]) | (refine Qi rfl rfl rfl rfl ?_ ?_ <;> (intro hb; (try intro _ hK); have hc := hb; try simp only [go_sem] at hc; simp only [go_sem, *])) | refine Qh rfl ?_ | (refine Qc rfl rfl ?_ ?_ <;> (intro hb; have hc := hb; try simp only [go_sem] at hc)) | refine q6 rfl ?_ | ((with_reducible apply And.intro); focus omega) | (refine z8 hK ?_; clear hK; simp only [go_sem, *]) | simp only [z7, z6, go_sem, *])
  all_goals first | contradiction | omega | skip
  refine c7 [] [2] sV1 rfl (by simp only [go_sem]) (by simp) ?_ ?_ (by simp [go_sem]) (by simp [go_sem]) ?_
  ·simp only [go_sem, *]
  ·simp only [go_sem, *]
  simp only [go_sem, w8, *]
  repeat' (first | (refine Qr rfl ?_; try intro _ hK; try simp only [go_sem, *]) | (refine Qi rfl rfl rfl rfl ?_ ?_ <;> (intro hb; (try intro _ hK); have hc := hb; try simp only [go_sem] at hc; simp only [go_sem, *])) | refine Qh rfl ?_ | (refine Qc rfl rfl ?_ ?_ <;> (intro hb; have hc := hb; try simp only [go_sem] at hc)) | refine q6 rfl ?_ | ((with_reducible apply And.intro); focus omega) | (refine z8 hK ?_; clear hK; simp only [go_sem, *]) | simp only [z7, z6, go_sem, *])
  refine w5 [3, 0] sF ?_
  simp only [go_sem, *]
  repeat' (first | (refine Qr rfl ?_; try intro _ hK; try simp only [go_sem, *]) | (refine Qi rfl rfl rfl rfl ?_ ?_ <;> (intro hb; (try intro _ hK); have hc := hb; try simp only [go_sem] at hc; simp only [go_sem, *])) | refine Qh rfl ?_ | (refine Qc rfl rfl ?_ ?_ <;> (intro hb; have hc := hb; try simp only [go_sem] at hc)) | refine q6 rfl ?_ | ((with_reducible apply And.intro); focus omega) | (refine z8 hK ?_; clear hK; simp only [go_sem, *]) | simp only [z7, z6, go_sem, *])
  all_goals first | contradiction | omega | skip
  (refine ⟨[_, _], [], [], ⟨rfl, rfl, trivial⟩, ?_⟩; simp only [go_sem, *])
end Go.Abs

namespace Go.Abs
open Go Go.Proofs Tryz
attribute [local irreducible] y3 Hold y7
theorem zFR {s : Str} (v : ValidN s) : 0 < (zLm s).length ∧ (zLm s).length ≤ 12 := by
 have h := H9 v
 unfold x7 at h
 simp only [Bool.and_eq_true, decide_eq_true_eq] at h
 omega
theorem zCk (l : List Str) (n : Int) (hl : l.length ≤ 4294967296) : zLn prog 78 [y4 l, iV n] [] (.tup [sV (if j7 l n = 0 then u6 l n else []), iV (j7 l n)]) [] := by
 have s1 := zAZ l hl
 unfold j7
 by_cases q : r9 l = 0
 ·rw [if_pos q]
  rw [q] at s1
  have hv := A5 q
  by_cases q2 : n < 0 ∨ (l.length : Int) ≤ n
  ·rw [if_pos q2, if_neg (by decide)]
   clear hv
   by_cases q3 : n < 0
   ·refine q7 func78 rfl (fun E hE => ?_); simp only [go_sem, ntmps78]
    repeat' (first | (refine Qr rfl ?_; try intro _ hK; try simp only [go_sem, *]) | (refine Qi rfl rfl rfl rfl ?_ ?_ <;> (intro hb; (try intro _ hK); have hc := hb; try simp only [go_sem] at hc; simp only [go_sem, *])) | refine Qh rfl ?_ | (refine Qc rfl rfl ?_ ?_ <;> (intro hb; have hc := hb; try simp only [go_sem] at hc)) | refine q6 rfl ?_ | (refine q9 (s1) ?_; simp only [go_sem, *]) | ((with_reducible apply And.intro); focus omega) | (refine z8 hK ?_; clear hK; simp only [go_sem, *]) | simp only [z7, z6, go_sem, *])
    all_goals first | contradiction | omega | skip
    (refine ⟨[_, _], [], [], ⟨rfl, rfl, trivial⟩, ?_⟩; simp only [go_sem, *])
   ·have q4 : (l.length : Int) ≤ n := q2.resolve_left q3
    clear q2
    refine q7 func78 rfl (fun E hE => ?_); simp only [go_sem, ntmps78]
    repeat' (first | (refine Qr rfl ?_; try intro _ hK; try simp only [go_sem, *]) | (refine Qi rfl rfl rfl rfl ?_ ?_ <;> (intro hb; (try intro _ hK); have hc := hb; try simp only [go_sem] at hc; simp only [go_sem, *])) | refine Qh rfl ?_ | (refine Qc rfl rfl ?_ ?_ <;> (intro hb; have hc := hb; try simp only [go_sem] at hc)) | refine q6 rfl ?_ | (refine q9 (s1) ?_; simp only [go_sem, *]) | ((with_reducible apply And.intro); focus omega) | (refine z8 hK ?_; clear hK; simp only [go_sem, *]) | simp only [z7, z6, go_sem, *])
    all_goals first | contradiction | omega | skip
    (refine ⟨[_, _], [], [], ⟨rfl, rfl, trivial⟩, ?_⟩; simp only [go_sem, *])
  ·rw [if_neg q2, if_pos rfl]
   obtain ⟨i, rfl⟩ : ∃ i : Nat, n = i := ⟨n.toNat, by omega⟩
   have hi2 : i < l.length := by omega
   have v := hv _ (l4 hi2)
   have so := V8 _ v.form (by have := v.len; omega)
   have e : u6 l (i : Int) = zLm (l.getD i default) := rfl
   rw [e]
   generalize zLm (l.getD i default) = k at *
   clear hv e v q2
   have q3 : ¬ (i : Int) < 0 := by omega
   refine q7 func78 rfl (fun E hE => ?_); simp only [go_sem, ntmps78]
   repeat' (first | (refine Qr rfl ?_; try intro _ hK; try simp only [go_sem, *]) | (refine Qi rfl rfl rfl rfl ?_ ?_ <;> (intro hb; (try intro _ hK); have hc := hb; try simp only [go_sem] at hc; simp only [go_sem, *])) | refine Qh rfl ?_ | (refine Qc rfl rfl ?_ ?_ <;> (intro hb; have hc := hb; try simp only [go_sem] at hc)) | refine q6 rfl ?_ | ((first | refine q9 (s1) ?_ | refine q9 (so) ?_); simp only [go_sem, *]) | ((with_reducible apply And.intro); focus omega) | (refine z8 hK ?_; clear hK; simp only [go_sem, *]) | simp only [z7, z6, go_sem, *])
   all_goals first | contradiction | omega | skip
   (refine ⟨[_, _], [], [], ⟨rfl, rfl, trivial⟩, ?_⟩; simp only [go_sem, *])
 ·rw [if_neg q, if_neg q]
  generalize r9 l = e at *
  refine q7 func78 rfl (fun E hE => ?_); simp only [go_sem, ntmps78]
  repeat' (first | (refine Qr rfl ?_; try intro _ hK; try simp only [go_sem, *]) | (refine Qi rfl rfl rfl rfl ?_ ?_ <;> (intro hb; (try intro _ hK); have hc := hb; try simp only [go_sem] at hc; simp only [go_sem, *])) | refine Qh rfl ?_ | (refine Qc rfl rfl ?_ ?_ <;> (intro hb; have hc := hb; try simp only [go_sem] at hc)) | refine q6 rfl ?_ | (refine q9 (s1) ?_; simp only [go_sem, *]) | ((with_reducible apply And.intro); focus omega) | (refine z8 hK ?_; clear hK; simp only [go_sem, *]) | simp only [z7, z6, go_sem, *])
  all_goals first | contradiction | omega | skip
  (refine ⟨[_, _], [], [], ⟨rfl, rfl, trivial⟩, ?_⟩; simp only [go_sem, *])
theorem zBc {l : List Str} {n : Int} (q : j7 l n = 0) : (∀ s, s ∈ l → ValidN s) ∧ l.length ≤ 6 ∧ 0 < (u6 l n).length ∧ (u6 l n).length ≤ 12 := by
 unfold j7 at q
 by_cases a : r9 l = 0
 ·rw [if_pos a] at q
  by_cases b : n < 0 ∨ (l.length : Int) ≤ n
  ·rw [if_pos b] at q; cases q
  ·have hv := A5 a
   have v : ValidN (l.getD n.toNat default) := hv _ (l4 (by omega))
   exact ⟨hv, A4 a, zFR v⟩
 ·rw [if_neg a] at q; exact absurd q a
theorem zA6 {l : List Str} {own : Str} {most : Int} {up : Bool} {s : Str} (h : zL1 l own most up = some s) : s.length < own.length := by
 obtain ⟨⟨t, _, _, h⟩, _⟩ := (cutN_some.1 h).1
 exact h
theorem zHJ (l : List Str) (n : Int) (hl : l.length ≤ 4294967296) : zLn prog 29 [y4 l, iV n] [] (.tup [sV (zAT l n), iV (zAS l n)]) [] := by
 have s1 := zCk l n hl
 unfold zAT zAS
 by_cases q : j7 l n = 0
 ·obtain ⟨hv, h6, hk0, hk1⟩ := zBc q
  rw [if_pos q] at s1
  rw [if_pos q, if_pos q]
  rw [q] at s1
  have sc : zLn prog 79 [y4 l, sV (u6 l n), iV 12, fnV 80] [] (.tup [.raw (c6 (zL1 l (u6 l n) 12 true)), bV (zL1 l (u6 l n) 12 true).isSome]) [] := zCg l (u6 l n) 12 true hv (by omega) hk0 hk1 (by omega)
  have hcl := fun s => zA6 (l := l) (own := u6 l n) (most := 12) (up := true) (s := s)
  generalize u6 l n = k at *
  generalize zL1 l k 12 true = o at *
  clear hv q
  cases o with
  | none =>
   rw [show (none : Option Str).isSome = false from rfl] at sc ⊢
   rw [if_neg (by decide)]
   simp only [c6, Option.map_none, Option.getD_none] at sc ⊢
   refine q7 func29 rfl (fun E hE => ?_); simp only [go_sem, ntmps29]
   repeat' (first | (refine Qr rfl ?_; try intro _ hK; try simp only [go_sem, *]) | refine Qh rfl ?_ | (refine Qc rfl rfl ?_ ?_ <;> (intro hb; have hc := hb; try simp only [go_sem] at hc)) | refine q6 rfl ?_ | ((first | refine q9 (s1) ?_ | refine q9 (sc) ?_); simp only [go_sem, *]) | ((with_reducible apply And.intro); focus omega) | (refine z8 hK ?_; clear hK; simp only [go_sem, *]) | simp only [z7, z6, go_sem, *])
   all_goals try contradiction
   (refine ⟨[_, _], [], [], ⟨rfl, rfl, trivial⟩, ?_⟩; simp only [go_sem, *])
  | some c =>
   have hc1 := hcl c rfl
   rw [show (some c : Option Str).isSome = true from rfl] at sc ⊢
   rw [if_pos rfl]
   simp only [c6, Option.map_some, Option.getD_some, zMi] at sc ⊢
   clear hcl
   refine q7 func29 rfl (fun E hE => ?_); simp only [go_sem, ntmps29]
   repeat' (first | (refine Qr rfl ?_; try intro _ hK; try simp only [go_sem, *]) | refine Qh rfl ?_ | (refine Qc rfl rfl ?_ ?_ <;> (intro hb; have hc := hb; try simp only [go_sem] at hc)) | refine q6 rfl ?_ | ((first | refine q9 (s1) ?_ | refine q9 (sc) ?_); simp only [go_sem, *]) | ((with_reducible apply And.intro); focus omega) | (refine z8 hK ?_; clear hK; simp only [go_sem, *]) | simp only [z7, z6, go_sem, *])
   all_goals try contradiction
   (refine ⟨[_, _], [], [], ⟨rfl, rfl, trivial⟩, ?_⟩; simp only [go_sem, *])
 ·rw [if_neg q] at s1
  rw [if_neg q, if_neg q]
  generalize j7 l n = e at *
  refine q7 func29 rfl (fun E hE => ?_); simp only [go_sem, ntmps29]
  repeat' (first | (refine Qr rfl ?_; try intro _ hK; try simp only [go_sem, *]) | refine Qh rfl ?_ | (refine Qc rfl rfl ?_ ?_ <;> (intro hb; have hc := hb; try simp only [go_sem] at hc)) | refine q6 rfl ?_ | (refine q9 (s1) ?_; simp only [go_sem, *]) | ((with_reducible apply And.intro); focus omega) | (refine z8 hK ?_; clear hK; simp only [go_sem, *]) | simp only [z7, z6, go_sem, *])
  all_goals try contradiction
  (refine ⟨[_, _], [], [], ⟨rfl, rfl, trivial⟩, ?_⟩; simp only [go_sem, *])
theorem zHC (l : List Str) (n w : Int) (hl : l.length ≤ 4294967296) : zLn prog 31 [y4 l, iV n, iV w] [] (.tup [sV (zMq l n w), iV (C9 l n w)]) [] := by
 have s1 := zCk l n hl
 unfold zMq C9
 by_cases q : j7 l n = 0
 ·obtain ⟨hv, h6, hk0, hk1⟩ := zBc q
  rw [if_pos q] at s1
  rw [if_pos q, if_pos q]
  rw [q] at s1
  by_cases q1 : w < 1
  ·rw [if_pos q1, if_pos q1]
   clear hv q
   generalize u6 l n = k at *
   refine q7 func31 rfl (fun E hE => ?_); simp only [go_sem, ntmps31]
   repeat' (first | (refine Qr rfl ?_; try intro _ hK; try simp only [go_sem, *]) | refine Qh rfl ?_ | (refine Qc rfl rfl ?_ ?_ <;> (intro hb; have hc := hb; try simp only [go_sem] at hc)) | refine q6 rfl ?_ | (refine q9 (s1) ?_; simp only [go_sem, *]) | ((with_reducible apply And.intro); focus omega) | (refine z8 hK ?_; clear hK; simp only [go_sem, *]) | simp only [z7, z6, go_sem, *])
   all_goals try contradiction
   (refine ⟨[_, _], [], [], ⟨rfl, rfl, trivial⟩, ?_⟩; simp only [go_sem, *])
  ·rw [if_neg q1, if_neg q1]
   by_cases q2 : ((u6 l n).length : Int) ≤ w
   ·rw [if_pos q2, if_pos q2]
    clear hv q
    generalize u6 l n = k at *
    refine q7 func31 rfl (fun E hE => ?_); simp only [go_sem, ntmps31]
    repeat' (first | (refine Qr rfl ?_; try intro _ hK; try simp only [go_sem, *]) | refine Qh rfl ?_ | (refine Qc rfl rfl ?_ ?_ <;> (intro hb; have hc := hb; try simp only [go_sem] at hc)) | refine q6 rfl ?_ | (refine q9 (s1) ?_; simp only [go_sem, *]) | ((with_reducible apply And.intro); focus omega) | (refine z8 hK ?_; clear hK; simp only [go_sem, *]) | simp only [z7, z6, go_sem, *])
    all_goals try contradiction
    (refine ⟨[_, _], [], [], ⟨rfl, rfl, trivial⟩, ?_⟩; simp only [go_sem, *])
   ·rw [if_neg q2, if_neg q2]
    have hw : IntKind.i64.wrap (w - 1) = w - 1 := wrap_i64 (by omega) (by omega)
    have sc : zLn prog 79 [y4 l, sV (u6 l n), iV (w - 1), fnV 83] [] (.tup [.raw (c6 (zL1 l (u6 l n) (w - 1) false)), bV (zL1 l (u6 l n) (w - 1) false).isSome]) [] := zCg l (u6 l n) (w - 1) false hv (by omega) hk0 hk1 (by omega)
    have hcl := fun s => zA6 (l := l) (own := u6 l n) (most := w - 1) (up := false) (s := s)
    generalize u6 l n = k at *
    generalize zL1 l k (w - 1) false = o at *
    clear hv q
    cases o with
    | none =>
     rw [show (none : Option Str).isSome = false from rfl] at sc ⊢
     rw [if_neg (by decide)]
     simp only [c6, Option.map_none, Option.getD_none] at sc ⊢
     refine q7 func31 rfl (fun E hE => ?_); simp only [go_sem, ntmps31]
     repeat' (first | (refine Qr rfl ?_; try intro _ hK; try simp only [go_sem, *]) | refine Qh rfl ?_ | (refine Qc rfl rfl ?_ ?_ <;> (intro hb; have hc := hb; try simp only [go_sem] at hc)) | refine q6 rfl ?_ | ((first | refine q9 (s1) ?_ | refine q9 (sc) ?_); simp only [go_sem, *]) | ((with_reducible apply And.intro); focus omega) | (refine z8 hK ?_; clear hK; simp only [go_sem, *]) | simp only [z7, z6, go_sem, *])
     all_goals try contradiction
     (refine ⟨[_, _], [], [], ⟨rfl, rfl, trivial⟩, ?_⟩; simp only [go_sem, *])
    | some c =>
     have hc1 := hcl c rfl
     rw [show (some c : Option Str).isSome = true from rfl] at sc ⊢
     rw [if_pos rfl]
     simp only [c6, Option.map_some, Option.getD_some, zMi] at sc ⊢
     clear hcl
     refine q7 func31 rfl (fun E hE => ?_); simp only [go_sem, ntmps31]
     repeat' (first | (refine Qr rfl ?_; try intro _ hK; try simp only [go_sem, *]) | refine Qh rfl ?_ | (refine Qc rfl rfl ?_ ?_ <;> (intro hb; have hc := hb; try simp only [go_sem] at hc)) | refine q6 rfl ?_ | ((first | refine q9 (s1) ?_ | refine q9 (sc) ?_); simp only [go_sem, *]) | ((with_reducible apply And.intro); focus omega) | (refine z8 hK ?_; clear hK; simp only [go_sem, *]) | simp only [z7, z6, go_sem, *])
     all_goals try contradiction
     (refine ⟨[_, _], [], [], ⟨rfl, rfl, trivial⟩, ?_⟩; simp only [go_sem, *])
 ·rw [if_neg q] at s1
  rw [if_neg q, if_neg q]
  generalize j7 l n = e at *
  refine q7 func31 rfl (fun E hE => ?_); simp only [go_sem, ntmps31]
  repeat' (first | (refine Qr rfl ?_; try intro _ hK; try simp only [go_sem, *]) | refine Qh rfl ?_ | (refine Qc rfl rfl ?_ ?_ <;> (intro hb; have hc := hb; try simp only [go_sem] at hc)) | refine q6 rfl ?_ | (refine q9 (s1) ?_; simp only [go_sem, *]) | ((with_reducible apply And.intro); focus omega) | (refine z8 hK ?_; clear hK; simp only [go_sem, *]) | simp only [z7, z6, go_sem, *])
  all_goals try contradiction
  (refine ⟨[_, _], [], [], ⟨rfl, rfl, trivial⟩, ?_⟩; simp only [go_sem, *])
end Go.Abs

namespace Go.Abs
open Go Go.Proofs Tryz
attribute [local irreducible] y3 Hold y7
theorem zHt : zLn prog 22 [] [] (bV true) [] := by
 have s1 := zCb zMU
 rw [zIJ, if_pos rfl, zIM] at s1
 have s2 := zHL [K5, zMU, G1, zMl] zIN
 rw [zIQ] at s2
 have s3 := zHq
 have s4 := zCX rulesX Q3 b7 (by decide) (by decide)
 have e4 : Y0 rulesX Q3 b7 = some [Q3, K6, b7] := by unfold Y0; rw [if_pos zDA, zC9]
 have e5 : u0 rulesX Q3 b7 = 0 := by unfold u0; rw [if_pos zDA, zC9]; rfl
 rw [e4, e5] at s4
 have s5 := zHr
 have s6 := zHJ smithsX 0 (by decide)
 rw [zIO, zIP] at s6
 have s7 := zHC smithsX 0 4 (by decide)
 rw [zIK, zIL] at s7
 have s8 := zHA [2, 3, 0, 1] [2, 3, 0, 1] (by decide)
 rw [decide_eq_true rfl] at s8
 have s9 := zHB [Q3, K6, b7] [Q3, K6, b7] (by decide)
 rw [decide_eq_true rfl] at s9
 clear e4 e5
 simp only [y4, W4, x4, zDR, rulesX, smithsX, zMU, K5, G1, zMl, Q3, K6, b7, zAD, zMx, Rule.enc, List.map_cons, List.map_nil, List.length_cons, List.length_nil] at s1 s2 s3 s4 s5 s6 s7 s8 s9
 refine q7 func22 rfl (fun E hE => ?_); simp only [go_sem, ntmps22]
 repeat' (first | (refine Qr rfl ?_; try intro _ hK; try simp only [go_sem, *]) | (refine Qi rfl rfl rfl rfl ?_ ?_ <;> (intro hb; (try intro _ hK); have hc := hb; try simp only [go_sem] at hc; simp only [go_sem, *])) | refine Qh rfl ?_ | (refine Qc rfl rfl ?_ ?_ <;> (intro hb; have hc := hb; try simp only [go_sem] at hc)) | refine q6 rfl ?_ | (refine q9 (s1) ?_; simp only [go_sem, *]) | (refine o9 (s3) ?_; simp only [go_sem, *]) | (refine o9 (s5) ?_; simp only [go_sem, *]) | ((with_reducible apply And.intro); focus omega) | (refine z8 hK ?_; clear hK; simp only [go_sem, *]) | simp only [z7, z6, go_sem, *])
 refine c7 [] [0] s2 rfl (by simp only [go_sem]) (by simp) ?_ ?_ (by simp [go_sem]) (by simp [go_sem]) ?_
 ·simp only [go_sem, *]
 ·simp only [go_sem, *]
 simp only [go_sem, w8, *]
 repeat' (first | (refine Qr rfl ?_; try intro _ hK; try simp only [go_sem, *]) | (refine Qi rfl rfl rfl rfl ?_ ?_ <;> (intro hb; (try intro _ hK); have hc := hb; try simp only [go_sem] at hc; simp only [go_sem, *])) | refine Qh rfl ?_ | (refine Qc rfl rfl ?_ ?_ <;> (intro hb; have hc := hb; try simp only [go_sem] at hc)) | refine q6 rfl ?_ | (refine q9 (s1) ?_; simp only [go_sem, *]) | (refine o9 (s3) ?_; simp only [go_sem, *]) | (refine o9 (s5) ?_; simp only [go_sem, *]) | ((with_reducible apply And.intro); focus omega) | (refine z8 hK ?_; clear hK; simp only [go_sem, *]) | simp only [z7, z6, go_sem, *])
 refine c7 [] [2] s4 rfl (by simp only [go_sem]) (by simp) ?_ ?_ (by simp [go_sem]) (by simp [go_sem]) ?_
 ·simp only [go_sem, *]
 ·simp only [go_sem, *]
 simp only [go_sem, w8, *]
 repeat' (first | (refine Qr rfl ?_; try intro _ hK; try simp only [go_sem, *]) | (refine Qi rfl rfl rfl rfl ?_ ?_ <;> (intro hb; (try intro _ hK); have hc := hb; try simp only [go_sem] at hc; simp only [go_sem, *])) | refine Qh rfl ?_ | (refine Qc rfl rfl ?_ ?_ <;> (intro hb; have hc := hb; try simp only [go_sem] at hc)) | refine q6 rfl ?_ | (refine q9 (s1) ?_; simp only [go_sem, *]) | (refine o9 (s3) ?_; simp only [go_sem, *]) | (refine o9 (s5) ?_; simp only [go_sem, *]) | ((with_reducible apply And.intro); focus omega) | (refine z8 hK ?_; clear hK; simp only [go_sem, *]) | simp only [z7, z6, go_sem, *])
 refine c7 [] [3] s6 rfl (by simp only [go_sem]) (by simp) ?_ ?_ (by simp [go_sem]) (by simp [go_sem]) ?_
 ·simp only [go_sem, *]
 ·simp only [go_sem, *]
 simp only [go_sem, w8, *]
 repeat' (first | (refine Qr rfl ?_; try intro _ hK; try simp only [go_sem, *]) | (refine Qi rfl rfl rfl rfl ?_ ?_ <;> (intro hb; (try intro _ hK); have hc := hb; try simp only [go_sem] at hc; simp only [go_sem, *])) | refine Qh rfl ?_ | (refine Qc rfl rfl ?_ ?_ <;> (intro hb; have hc := hb; try simp only [go_sem] at hc)) | refine q6 rfl ?_ | (refine q9 (s1) ?_; simp only [go_sem, *]) | (refine o9 (s3) ?_; simp only [go_sem, *]) | (refine o9 (s5) ?_; simp only [go_sem, *]) | ((with_reducible apply And.intro); focus omega) | (refine z8 hK ?_; clear hK; simp only [go_sem, *]) | simp only [z7, z6, go_sem, *])
 refine c7 [] [4] s7 rfl (by simp only [go_sem]) (by simp) ?_ ?_ (by simp [go_sem]) (by simp [go_sem]) ?_
 ·simp only [go_sem, *]
 ·simp only [go_sem, *]
 simp only [go_sem, w8, *]
 repeat' (first | (refine Qr rfl ?_; try intro _ hK; try simp only [go_sem, *]) | (refine Qi rfl rfl rfl rfl ?_ ?_ <;> (intro hb; (try intro _ hK); have hc := hb; try simp only [go_sem] at hc; simp only [go_sem, *])) | refine Qh rfl ?_ | (refine Qc rfl rfl ?_ ?_ <;> (intro hb; have hc := hb; try simp only [go_sem] at hc)) | refine q6 rfl ?_ | (refine q9 (s1) ?_; simp only [go_sem, *]) | (refine o9 (s3) ?_; simp only [go_sem, *]) | (refine o9 (s5) ?_; simp only [go_sem, *]) | ((with_reducible apply And.intro); focus omega) | (refine z8 hK ?_; clear hK; simp only [go_sem, *]) | simp only [z7, z6, go_sem, *])
 refine c7 [] [1, 5] s8 rfl (by simp only [go_sem]) (by simp) ?_ ?_ (by simp [go_sem]) (by simp [go_sem]) ?_
 ·simp only [go_sem, *]; rfl
 ·simp only [go_sem, *]
 simp only [go_sem, w8, *]
 repeat' (first | (refine Qr rfl ?_; try intro _ hK; try simp only [go_sem, *]) | (refine Qi rfl rfl rfl rfl ?_ ?_ <;> (intro hb; (try intro _ hK); have hc := hb; try simp only [go_sem] at hc; simp only [go_sem, *])) | refine Qh rfl ?_ | (refine Qc rfl rfl ?_ ?_ <;> (intro hb; have hc := hb; try simp only [go_sem] at hc)) | refine q6 rfl ?_ | ((with_reducible apply And.intro); focus omega) | (refine z8 hK ?_; clear hK; simp only [go_sem, *]) | simp only [z7, z6, go_sem, *])
 refine c7 [] [6] s9 rfl (by simp only [go_sem]) (by simp) ?_ ?_ (by simp [go_sem]) (by simp [go_sem]) ?_
 ·simp only [go_sem, *]
 ·simp only [go_sem, *]
 simp only [go_sem, w8, *]
 repeat' (first | (refine Qr rfl ?_; try intro _ hK; try simp only [go_sem, *]) | (refine Qi rfl rfl rfl rfl ?_ ?_ <;> (intro hb; (try intro _ hK); have hc := hb; try simp only [go_sem] at hc; simp only [go_sem, *])) | refine Qh rfl ?_ | (refine Qc rfl rfl ?_ ?_ <;> (intro hb; have hc := hb; try simp only [go_sem] at hc)) | refine q6 rfl ?_ | ((with_reducible apply And.intro); focus omega) | (refine z8 hK ?_; clear hK; simp only [go_sem, *]) | simp only [z7, z6, go_sem, *])
 (refine ⟨[_], [], [], ⟨rfl, trivial⟩, ?_⟩; simp only [go_sem, *])
end Go.Abs

namespace Go.Abs
open Go Go.Proofs Tryz
attribute [local irreducible] y3 Hold y7
def Z4 (t : Nat) : List UInt8 := ((List.range' (65 + t) (26 - t)).map UInt8.ofNat).filter w6
theorem zF9 : Z4 0 = otherL := by decide
theorem zF8 {t : Nat} (h : t < 26) : Z4 t = if w6 (UInt8.ofNat (65 + t)) = true then UInt8.ofNat (65 + t) :: Z4 (t + 1) else Z4 (t + 1) := by
 unfold Z4
 rw [show 26 - t = (26 - (t + 1)) + 1 by omega, List.range'_succ, List.map_cons, List.filter_cons]
 rfl
theorem zIH : ∀ t, t < 27 → IntKind.i32.wrap (((65 + t : Nat) : Int) + 1) = ((65 + (t + 1) : Nat) : Int) := by decide
theorem zFW : ∀ n, n < 128 → ((x8 (UInt8.ofNat n) = 2) ↔ w6 (UInt8.ofNat n) = true) := by decide
theorem zCi : ∀ (n : Nat) (k : Str), k.length ≤ n → k.length ≤ 1000 → zLn prog 90 [sV k] [] (.tup [sV ((r8 n k).getD []), bV (r8 n k).isSome]) []
  | n, [], _, _ => by
    have e : r8 n [] = some [] := by cases n <;> rfl
    rw [e]
    refine q7 func90 rfl (fun E hE => ?_); simp only [go_sem, ntmps90]
    repeat' (first | (refine Qr rfl ?_; try intro _ hK; try simp only [go_sem, *]) | (refine Qi rfl rfl rfl rfl ?_ ?_ <;> (intro hb; (try intro _ hK); have hc := hb; try simp only [go_sem] at hc; simp only [go_sem, *])) | refine Qh rfl ?_ | (refine Qc rfl rfl ?_ ?_ <;> (intro hb; have hc := hb; try simp only [go_sem] at hc)) | refine q6 rfl ?_ | ((with_reducible apply And.intro); focus omega) | (refine z8 hK ?_; clear hK; simp only [go_sem, *]) | simp only [z7, z6, go_sem, *])
    all_goals try contradiction
    (refine ⟨[_, _], [], [], ⟨rfl, rfl, trivial⟩, ?_⟩; simp only [go_sem, *])
  | 0, a :: r, h, _ => by simp at h
  | n + 1, a :: r, h, hk => by
    have IH := zCi n
    have h0 : p6 (fun c => if (y5 c).isPrefixOf (a :: r) = true then (r8 n ((a :: r).drop (y5 c).length)).map (c :: ·) else none) (Z4 0) = r8 (n + 1) (a :: r) := by rw [zF9]; rfl
    have hne : (a :: r == []) = false := rfl
    generalize hkk : a :: r = k at *
    have hk0 : 0 < k.length := by rw [← hkk]; simp
    have hnz : ¬ k = [] := fun e => by rw [e] at hk0; simp at hk0
    clear hkk
    generalize r8 (n + 1) k = T at *
    refine q7 func90 rfl (fun E hE => ?_); simp only [go_sem, ntmps90]
    repeat' (first | (refine Qr rfl ?_; try intro _ hK; try simp only [go_sem, *]) | (refine Qi rfl rfl rfl rfl ?_ ?_ <;> (intro hb; (try intro _ hK); have hc := hb; try simp only [go_sem] at hc; simp only [go_sem, *])) | refine Qh rfl ?_ | (refine Qc rfl rfl ?_ ?_ <;> (intro hb; have hc := hb; try simp only [go_sem] at hc)) | refine q6 rfl ?_ | ((with_reducible apply And.intro); focus omega) | (refine z8 hK ?_; clear hK; simp only [go_sem, *]) | simp only [z7, z6, go_sem, *])
    all_goals try contradiction
    refine p8 rfl (26) (fun t => p6 (fun c => if (y5 c).isPrefixOf k = true then (r8 n (k.drop (y5 c).length)).map (c :: ·) else none) (Z4 t) = T) 37 (fun t => [(4, .raw (.int .i32 ((65 + t : Nat) : Int))), (0, sV k)]) (fun t => []) [] [] (by exact h0) ?_; intro t ht hP
    clear h0
    by_cases ht : t < 26
    · have hw := zIH t (by omega)
      have hc1 : ((65 + t : Nat) : Int) ≤ 90 := by omega
      rw [zF8 ht] at hP
      obtain ⟨c, hc⟩ : ∃ c, UInt8.ofNat (65 + t) = c := ⟨_, rfl⟩
      have hcn : c.toNat = 65 + t := by rw [← hc, UInt8.toNat_ofNat']; omega
      have hk2 := zFW (65 + t) (by omega)
      rw [hc] at hP hk2
      have skd := E1 ((65 + t : Nat) : Int)
      have ekd : Z1 ((65 + t : Nat) : Int) = x8 c := by rw [← hcn]; exact G0 c
      rw [ekd] at skd
      have ss := zCn c (by omega)
      rw [hcn] at ss
      clear ekd hc
      by_cases q : w6 c = true
      · rw [if_pos q, p6] at hP
        rw [hk2.2 q] at skd
        have hsl := S1 c
        have sh := zCZ k (y5 c) (by omega) (by omega)
        by_cases q2 : (y5 c).isPrefixOf k = true
        · rw [if_pos q2] at hP
          rw [q2] at sh
          have hpl := zAL q2
          have sI := IH (k.drop (y5 c).length) (by simp; omega) (by simp; omega)
          have ee : Utf8.encode ((65 + t : Nat) : Int) = ⟨[c].toArray⟩ := by
            have := C2 (n := ((65 + t : Nat) : Int)) (by omega) (by omega)
            rw [Int.toNat_natCast, ← hcn, UInt8.ofNat_toNat] at this
            rw [← hcn]; exact this
          generalize y5 c = sb at *
          cases hF : r8 n (k.drop sb.length) with
          | none =>
            rw [hF] at hP sI
            have hP2 : p6 (fun c => if (y5 c).isPrefixOf k = true then (r8 n (k.drop (y5 c).length)).map (c :: ·) else none) (Z4 (t + 1)) = T := hP
            have sI2 : zLn prog 90 [sV (k.drop sb.length)] [] (.tup [sV [], bV false]) [] := sI
            clear hP sI hF IH hk2 q2 ee
            repeat' (first | (refine Qr rfl ?_; try intro _ hK; try simp only [go_sem, *]) | (refine Qi rfl rfl rfl rfl ?_ ?_ <;> (intro hb; (try intro _ hK); have hc := hb; try simp only [go_sem] at hc; simp only [go_sem, *])) | refine Qh rfl ?_ | (refine Qc rfl rfl ?_ ?_ <;> (intro hb; have hc := hb; try simp only [go_sem] at hc)) | refine q6 rfl ?_ | (refine y8 (skd) ?_ ?_; (focus (simp only [go_sem, *]; done)); simp only [go_sem, *]) | (refine y8 (ss) ?_ ?_; (focus (simp only [go_sem, *]; done)); simp only [go_sem, *]) | (refine y8 (sh) ?_ ?_; (focus (simp only [go_sem, *]; done)); simp only [go_sem, *]) | (refine y8 (sI2) ?_ ?_; (focus (simp only [go_sem, *]; done)); simp only [go_sem, *]) | ((with_reducible apply And.intro); focus omega) | (refine z8 hK ?_; clear hK; simp only [go_sem, *]) | simp only [z7, z6, go_sem, *])
            all_goals try contradiction
            exact p9 (i' := t + 1) [] [] (by exact hP2)
          | some y =>
            rw [hF] at hP sI
            have hP2 : some (c :: y) = T := hP
            subst hP2
            have hy := H4 _ _ _ hF
            have hyl := (T2 y).1
            rw [hy.2] at hyl
            have hyl : y.length ≤ 1000 := by simp at hyl; omega
            have sI2 : zLn prog 90 [sV (k.drop sb.length)] [] (.tup [sV y, bV true]) [] := sI
            clear hy
            clear hP sI hF IH hk2 q2
            repeat' (first | (refine Qr rfl ?_; try intro _ hK; try simp only [go_sem, *]) | (refine Qi rfl rfl rfl rfl ?_ ?_ <;> (intro hb; (try intro _ hK); have hc := hb; try simp only [go_sem] at hc; simp only [go_sem, *])) | refine Qh rfl ?_ | (refine Qc rfl rfl ?_ ?_ <;> (intro hb; have hc := hb; try simp only [go_sem] at hc)) | refine q6 rfl ?_ | (refine y8 (skd) ?_ ?_; (focus (simp only [go_sem, *]; done)); simp only [go_sem, *]) | (refine y8 (ss) ?_ ?_; (focus (simp only [go_sem, *]; done)); simp only [go_sem, *]) | (refine y8 (sh) ?_ ?_; (focus (simp only [go_sem, *]; done)); simp only [go_sem, *]) | (refine y8 (sI2) ?_ ?_; (focus (simp only [go_sem, *]; done)); simp only [go_sem, *]) | ((with_reducible apply And.intro); focus omega) | (refine z8 hK ?_; clear hK; simp only [go_sem, *]) | simp only [z7, z6, go_sem, *])
            all_goals ((try clear ee); first | contradiction | skip)
            (refine ⟨[_, _], [], [], ⟨rfl, rfl, trivial⟩, ?_⟩; simp only [go_sem, *])
        · rw [if_neg q2] at hP
          rw [(Bool.not_eq_true _).mp q2] at sh
          have hP2 : p6 (fun c => if (y5 c).isPrefixOf k = true then (r8 n (k.drop (y5 c).length)).map (c :: ·) else none) (Z4 (t + 1)) = T := hP
          clear hP IH hk2 q2
          generalize y5 c = sb at *
          repeat' (first | (refine Qr rfl ?_; try intro _ hK; try simp only [go_sem, *]) | (refine Qi rfl rfl rfl rfl ?_ ?_ <;> (intro hb; (try intro _ hK); have hc := hb; try simp only [go_sem] at hc; simp only [go_sem, *])) | refine Qh rfl ?_ | (refine Qc rfl rfl ?_ ?_ <;> (intro hb; have hc := hb; try simp only [go_sem] at hc)) | refine q6 rfl ?_ | (refine y8 (skd) ?_ ?_; (focus (simp only [go_sem, *]; done)); simp only [go_sem, *]) | (refine y8 (ss) ?_ ?_; (focus (simp only [go_sem, *]; done)); simp only [go_sem, *]) | (refine y8 (sh) ?_ ?_; (focus (simp only [go_sem, *]; done)); simp only [go_sem, *]) | ((with_reducible apply And.intro); focus omega) | (refine z8 hK ?_; clear hK; simp only [go_sem, *]) | simp only [z7, z6, go_sem, *])
          all_goals try contradiction
          exact p9 (i' := t + 1) [] [] (by exact hP2)
      · rw [if_neg q] at hP
        have hk3 : (x8 c != 2) = true := by simpa using fun e => q (hk2.1 e)
        clear hk2 IH q
        generalize x8 c = kb at *
        repeat' (first | (refine Qr rfl ?_; try intro _ hK; try simp only [go_sem, *]) | (refine Qi rfl rfl rfl rfl ?_ ?_ <;> (intro hb; (try intro _ hK); have hc := hb; try simp only [go_sem] at hc; simp only [go_sem, *])) | refine Qh rfl ?_ | (refine Qc rfl rfl ?_ ?_ <;> (intro hb; have hc := hb; try simp only [go_sem] at hc)) | refine q6 rfl ?_ | (refine y8 (skd) ?_ ?_; (focus (simp only [go_sem, *]; done)); simp only [go_sem, *]) | (refine y8 (ss) ?_ ?_; (focus (simp only [go_sem, *]; done)); simp only [go_sem, *]) | ((with_reducible apply And.intro); focus omega) | (refine z8 hK ?_; clear hK; simp only [go_sem, *]) | simp only [z7, z6, go_sem, *])
        all_goals try contradiction
        exact p9 (i' := t + 1) [] [] (by exact hP)
    · have e : Z4 t = [] := by
        unfold Z4
        rw [show 26 - t = 0 by omega]; rfl
      rw [e] at hP
      have hP2 : none = T := hP
      subst hP2
      have hc1 : ¬ ((65 + t : Nat) : Int) ≤ 90 := by omega
      clear hP e IH
      repeat' (first | (refine Qr rfl ?_; try intro _ hK; try simp only [go_sem, *]) | (refine Qi rfl rfl rfl rfl ?_ ?_ <;> (intro hb; (try intro _ hK); have hc := hb; try simp only [go_sem] at hc; simp only [go_sem, *])) | refine Qh rfl ?_ | (refine Qc rfl rfl ?_ ?_ <;> (intro hb; have hc := hb; try simp only [go_sem] at hc)) | refine q6 rfl ?_ | ((with_reducible apply And.intro); focus omega) | (refine z8 hK ?_; clear hK; simp only [go_sem, *]) | simp only [z7, z6, go_sem, *])
      all_goals try contradiction
      (refine ⟨[_, _], [], [], ⟨rfl, rfl, trivial⟩, ?_⟩; simp only [go_sem, *])
      all_goals rfl
end Go.Abs

namespace Go.Abs
open Go Go.Proofs Tryz
attribute [local irreducible] y3 Hold y7
theorem zLZ (s : Str) : zLn prog 42 [sV s] [] (.tup [sV (O1 s), iV (T4 s)]) [] := by
 have s1 := F8 s
 unfold O1 T4
 by_cases q : x6 s = 0
 ·have v := checkN_zero.1 q
  have hkl := (T2 s).2
  have hl6 := v.len
  have s2 := V8 s v.form (by omega)
  have s3 := zCi (zLm s).length (zLm s) (Nat.le_refl _) (by omega)
  rw [if_pos q, if_pos q]
  rw [q] at s1
  have e : P0 (zLm s) = r8 (zLm s).length (zLm s) := rfl
  rw [e]
  generalize r8 (zLm s).length (zLm s) = o at *
  generalize zLm s = k at *
  clear q v e hkl
  cases o with
  | none =>
   have s3 : zLn prog 90 [sV k] [] (.tup [sV [], bV false]) [] := s3
   rw [show (none : Option Str).isSome = false from rfl, if_neg (by decide), show (none : Option Str).getD [] = [] from rfl]
   refine q7 func42 rfl (fun E hE => ?_); simp only [go_sem, ntmps42]
   repeat' (first | (refine Qr rfl ?_; try intro _ hK; try simp only [go_sem, *]) | refine Qh rfl ?_ | (refine Qc rfl rfl ?_ ?_ <;> (intro hb; have hc := hb; try simp only [go_sem] at hc)) | refine q6 rfl ?_ | ((first | refine q9 (s1) ?_ | refine q9 (s2) ?_ | refine q9 (s3) ?_); simp only [go_sem, *]) | ((with_reducible apply And.intro); focus omega) | (refine z8 hK ?_; clear hK; simp only [go_sem, *]) | simp only [z7, z6, go_sem, *])
   all_goals try contradiction
   (refine ⟨[_, _], [], [], ⟨rfl, rfl, trivial⟩, ?_⟩; simp only [go_sem, *])
  | some y =>
   have s3 : zLn prog 90 [sV k] [] (.tup [sV y, bV true]) [] := s3
   rw [show (some y : Option Str).isSome = true from rfl, if_pos rfl, show (some y : Option Str).getD [] = y from rfl]
   refine q7 func42 rfl (fun E hE => ?_); simp only [go_sem, ntmps42]
   repeat' (first | (refine Qr rfl ?_; try intro _ hK; try simp only [go_sem, *]) | refine Qh rfl ?_ | (refine Qc rfl rfl ?_ ?_ <;> (intro hb; have hc := hb; try simp only [go_sem] at hc)) | refine q6 rfl ?_ | ((first | refine q9 (s1) ?_ | refine q9 (s2) ?_ | refine q9 (s3) ?_); simp only [go_sem, *]) | ((with_reducible apply And.intro); focus omega) | (refine z8 hK ?_; clear hK; simp only [go_sem, *]) | simp only [z7, z6, go_sem, *])
   all_goals try contradiction
   (refine ⟨[_, _], [], [], ⟨rfl, rfl, trivial⟩, ?_⟩; simp only [go_sem, *])
 ·rw [if_neg q, if_neg q]
  generalize x6 s = e at *
  refine q7 func42 rfl (fun E hE => ?_); simp only [go_sem, ntmps42]
  repeat' (first | (refine Qr rfl ?_; try intro _ hK; try simp only [go_sem, *]) | refine Qh rfl ?_ | (refine Qc rfl rfl ?_ ?_ <;> (intro hb; have hc := hb; try simp only [go_sem] at hc)) | refine q6 rfl ?_ | (refine q9 (s1) ?_; simp only [go_sem, *]) | ((with_reducible apply And.intro); focus omega) | (refine z8 hK ?_; clear hK; simp only [go_sem, *]) | simp only [z7, z6, go_sem, *])
  all_goals try contradiction
  (refine ⟨[_, _], [], [], ⟨rfl, rfl, trivial⟩, ?_⟩; simp only [go_sem, *])
theorem zHp (c : UInt8) : zLn prog 93 [.raw (.int .u8 (c.toNat : Int))] [] (bV (y6 c)) [] := by
 have e : y6 c = (decide ((c.toNat : Int) ≥ 97) && decide ((c.toNat : Int) ≤ 122)) := by unfold y6; rw [Bool.eq_iff_iff]; simp; omega
 rw [e]
 clear e
 refine q7 func93 rfl (fun E hE => ?_); simp only [go_sem, ntmps93]
 repeat' (first | (refine Qr rfl ?_; try intro _ hK; try simp only [go_sem, *]) | (refine Qi rfl rfl rfl rfl ?_ ?_ <;> (intro hb; (try intro _ hK); have hc := hb; try simp only [go_sem] at hc; simp only [go_sem, *])) | refine Qh rfl ?_ | (refine Qc rfl rfl ?_ ?_ <;> (intro hb; have hc := hb; try simp only [go_sem] at hc)) | refine q6 rfl ?_ | ((with_reducible apply And.intro); focus omega) | (refine z8 hK ?_; clear hK; simp only [go_sem, *]) | simp only [z7, z6, go_sem, *])
 all_goals (refine ⟨[_], [], [], ⟨rfl, trivial⟩, ?_⟩; simp only [go_sem, *])
 all_goals simp_all
theorem zLb (s : Str) (h : 0 < s.length) : zLn prog 46 [sV s] [] (bV (y6 (s.getD 0 0))) [] := by
 have sl := zHp (s.getD 0 0)
 generalize y6 (s.getD 0 0) = b at *
 refine q7 func46 rfl (fun E hE => ?_); simp only [go_sem, ntmps46]
 repeat' (first | (refine Qr rfl ?_; try intro _ hK; try simp only [go_sem, *]) | refine Qh rfl ?_ | (refine Qc rfl rfl ?_ ?_ <;> (intro hb; have hc := hb; try simp only [go_sem] at hc)) | refine q6 rfl ?_ | (refine q9 (sl) ?_; simp only [go_sem, *]) | ((with_reducible apply And.intro); focus omega) | (refine z8 hK ?_; clear hK; simp only [go_sem, *]) | simp only [z7, z6, go_sem, *])
 (refine ⟨[_], [], [], ⟨rfl, trivial⟩, ?_⟩; simp only [go_sem, *])
end Go.Abs

namespace Go.Abs
open Go Go.Proofs Tryz
structure Stop (p : Prop) : Prop where
 it : p
theorem zLc {P : Program} {E : Env} {b : Code} {Q : Exit → AS → Prop} {σ : AS} (p : List Nat) (h : Stop (Hold P E (sub p b) Q σ)) : Hold P E (sub p b) Q σ := h.it
theorem zB7 : ∀ {l : List Str}, (∀ s, s ∈ l → ValidN s) → t6 l = 0
 | [], _ => rfl
 | x :: r, h => by
  rw [t6, if_pos (checkN_zero.2 (h x (by simp))), zB7 (l := r) (fun s hs => h s (by simp [hs]))]
theorem zKG {l : List Str} (hv : ∀ s, s ∈ l → ValidN s) (h6 : l.length ≤ 6) : r9 l = 0 := by
 unfold r9
 rw [if_neg (by omega), zB7 hv]
abbrev f9 (d : Dice) : Prop := d.list.length ≤ 4294967296
theorem zFv (d : Dice) (many most : Int) (h : f9 d) (hm : 0 ≤ many ∧ many ≤ 1000) (h1 : 1 ≤ most ∧ most ≤ 1000) : ∃ (l : List Str) (d' : Dice), zLn prog 24 [.ptr 0 0, iV many, iV most] [w9 d] (.own 1 1 0 l.length) [w9 d', .row 1 (l.map sV)] ∧
  (∀ s, s ∈ l → ValidN s) ∧ (l.length : Int) ≤ many ∧ f9 d' := by
 obtain ⟨a, b, c⟩ := zFu (d := d) hm.1 h1.1
 exact ⟨_, _, zHG d many most h hm h1, fun s hs => (a s hs).1, b, by unfold f9; rw [c]; exact h⟩
theorem zFr (d : Dice) (most : Int) (h : f9 d) (h1 : 1 ≤ most ∧ most ≤ 1000) : ∃ (s : Str) (d' : Dice), zLn prog 25 [.ptr 0 0, iV most] [w9 d] (sV s) [w9 d'] ∧ ValidN s ∧ f9 d' := by
 obtain ⟨a, b, c⟩ := zAE (d := d) h1.1
 exact ⟨_, _, zCd d most h h1, a, by unfold f9; rw [c]; exact h⟩
theorem zKr (d : Dice) (n : Int) (h : f9 d) (hn : 0 ≤ n ∧ n ≤ 4294967296) : ∃ (t : Bool) (d' : Dice), zLn prog 34 [.ptr 0 0, iV n] [w9 d] (bV t) [w9 d'] ∧ f9 d' :=
 ⟨_, _, F9 d n h hn, by unfold f9 v6; rw [r5]; exact h⟩
theorem zGZ (d : Dice) (many : Int) (h : f9 d) (hm : 0 ≤ many ∧ many ≤ 4) : ∃ (r : List Rule) (d' : Dice), zLn prog 35 [.ptr 0 0, iV many] [w9 d] (.own 1 2 0 r.length) [w9 d', .row 2 (r.map Rule.enc)] ∧
  u7 r = 0 ∧ (r.length : Int) ≤ many ∧ f9 d' := by
 obtain ⟨a, b, c⟩ := zGY (d := d) hm
 exact ⟨_, _, zHI d many h (by omega), a, b, by unfold f9; rw [c]; exact h⟩
theorem zD0 (l : List Int) (h : l.length ≤ 4294967296) : ∃ d : Dice, zLn prog 23 [W4 l] [] (.ptr 0 0) [w9 d] ∧ f9 d := ⟨_, zHH l, h⟩
theorem zFp {l : List Str} {x : Str} (hv : ∀ s, s ∈ l → ValidN s) (v : ValidN x) : ∃ m : List Str, l.map sV ++ [sV x] = m.map sV ∧ m.length = l.length + 1 ∧ (∀ s, s ∈ m → ValidN s) ∧ m = l ++ [x] :=
 ⟨l ++ [x], by simp, by simp, fun s hs => by
  rcases List.mem_append.1 hs with hs | hs
  ·exact hv s hs
  ·rw [List.mem_singleton.1 hs]; exact v, rfl⟩
end Go.Abs

namespace Go.Abs
open Go Go.Proofs Tryz
attribute [local irreducible] y3 Hold y7
theorem zCP {r : List Rule} (h : u7 r = 0) : r.length ≤ 4294967296 ∧ ∀ x, x ∈ r → x.src.length ≤ 4294967296 ∧ x.dst.length ≤ 4294967296 := by
 obtain ⟨h4, h5⟩ := zAM h
 exact ⟨by omega, fun x hx => by have := h5 x hx; omega⟩
theorem E2 (r : List Rule) (a b : Str) (hr : u7 r = 0) (va : ValidN a) (vb : ValidN b) : zLn prog 36 [x4 r, sV a, sV b] [] (.tup [iV (zLs r a b), bV true]) [] := by
 have su := zAW r a b (zCP hr).1 (zCP hr).2
 have hc := zDg hr va vb
 generalize f6 r a b = u at *
 generalize u0 r a b = e at *
 generalize zLs r a b = n at *
 clear hr va vb
 rcases hc with ⟨h1, h2, h3, h4⟩ | ⟨h1, h2, h3⟩
 ·subst h1 h2
  have h5 : u ≥ 0 := h4
  refine q7 func36 rfl (fun E hE => ?_); simp only [go_sem, ntmps36]
  repeat' (first | (refine Qr rfl ?_; try intro _ hK; try simp only [go_sem, *]) | (refine Qi rfl rfl rfl rfl ?_ ?_ <;> (intro hb; (try intro _ hK); have hc := hb; try simp only [go_sem] at hc; simp only [go_sem, *])) | refine Qh rfl ?_ | (refine Qc rfl rfl ?_ ?_ <;> (intro hb; have hc := hb; try simp only [go_sem] at hc)) | refine q6 rfl ?_ | (refine q9 (su) ?_; simp only [go_sem, *]) | ((with_reducible apply And.intro); focus omega) | (refine z8 hK ?_; clear hK; simp only [go_sem, *]) | simp only [z7, z6, go_sem, *])
  all_goals try contradiction
  (refine ⟨[_, _], [], [], ⟨rfl, rfl, trivial⟩, ?_⟩; simp only [go_sem, *])
 ·subst h1 h2 h3
  refine q7 func36 rfl (fun E hE => ?_); simp only [go_sem, ntmps36]
  repeat' (first | (refine Qr rfl ?_; try intro _ hK; try simp only [go_sem, *]) | (refine Qi rfl rfl rfl rfl ?_ ?_ <;> (intro hb; (try intro _ hK); have hc := hb; try simp only [go_sem] at hc; simp only [go_sem, *])) | refine Qh rfl ?_ | (refine Qc rfl rfl ?_ ?_ <;> (intro hb; have hc := hb; try simp only [go_sem] at hc)) | refine q6 rfl ?_ | (refine q9 (su) ?_; simp only [go_sem, *]) | ((with_reducible apply And.intro); focus omega) | (refine z8 hK ?_; clear hK; simp only [go_sem, *]) | simp only [z7, z6, go_sem, *])
  all_goals try contradiction
  (refine ⟨[_, _], [], [], ⟨rfl, rfl, trivial⟩, ?_⟩; simp only [go_sem, *])
theorem zCc {s : Str} (v : ValidN s) : zLn prog 37 [sV s] [] (.tup [sV (zLm s), iV 0]) [] := by
 have := zCb s
 rw [v.check, if_pos rfl] at this
 exact this
theorem zLX (nums : List Int) (h : nums.length ≤ 4294967296) : zLn prog 5 [W4 nums] [] (bV true) [] := by
 obtain ⟨d0, s0, hd0⟩ := zD0 nums h
 obtain ⟨r, d1, s1, hr, hr4, hd1⟩ := zGZ d0 3 hd0 (by omega)
 obtain ⟨l0, d2, s2, v0, hl0, hd2⟩ := zFv d1 3 3 hd1 (by omega) (by omega)
 obtain ⟨x, d3, s3, vx, hd3⟩ := zFr d2 3 hd2 (by omega)
 obtain ⟨l, hmap, hll, hvl, -⟩ := zFp v0 vx
 have htk : List.take (l0.length + 1) (List.map sV l) = List.map sV l := List.take_of_length_le (by simp; omega)
 have sS := zHt
 have hl4 : l.length ≤ 4 := by omega
 clear v0 vx hd0 hd1 hd2 hd3 h
 refine q7 func5 rfl (fun E hE => ?_); simp only [go_sem, ntmps5]
 repeat' (first | (refine Qr rfl ?_; try intro _ hK; try simp only [go_sem, *]) | (refine Qi rfl rfl rfl rfl ?_ ?_ <;> (intro hb; (try intro _ hK); have hc := hb; try simp only [go_sem] at hc; simp only [go_sem, *])) | refine Qh rfl ?_ | refine Qd rfl (by kernel_rfl) ?_ | (refine Qc rfl rfl ?_ ?_ <;> (intro hb; have hc := hb; try simp only [go_sem] at hc)) | refine q6 rfl ?_ | (refine Qb ?_ ?_; focus kernel_rfl) | (refine o9 (s0) ?_; simp only [go_sem, *]) | ((with_reducible apply And.intro); focus omega) | (refine z8 hK ?_; clear hK; simp only [go_sem, *]) | simp only [z7, z6, go_sem, *])
 refine w5 [0] s1 ?_
 simp only [go_sem, *]
 repeat' (first | (refine Qr rfl ?_; try intro _ hK; try simp only [go_sem, *]) | (refine Qi rfl rfl rfl rfl ?_ ?_ <;> (intro hb; (try intro _ hK); have hc := hb; try simp only [go_sem] at hc; simp only [go_sem, *])) | refine Qh rfl ?_ | refine Qd rfl (by kernel_rfl) ?_ | (refine Qc rfl rfl ?_ ?_ <;> (intro hb; have hc := hb; try simp only [go_sem] at hc)) | refine q6 rfl ?_ | (refine Qb ?_ ?_; focus kernel_rfl) | ((with_reducible apply And.intro); focus omega) | (refine z8 hK ?_; clear hK; simp only [go_sem, *]) | simp only [z7, z6, go_sem, *])
 refine w5 [0] s2 ?_
 simp only [go_sem, *]
 repeat' (first | (refine Qr rfl ?_; try intro _ hK; try simp only [go_sem, *]) | (refine Qi rfl rfl rfl rfl ?_ ?_ <;> (intro hb; (try intro _ hK); have hc := hb; try simp only [go_sem] at hc; simp only [go_sem, *])) | refine Qh rfl ?_ | refine Qd rfl (by kernel_rfl) ?_ | (refine Qc rfl rfl ?_ ?_ <;> (intro hb; have hc := hb; try simp only [go_sem] at hc)) | refine q6 rfl ?_ | (refine Qb ?_ ?_; focus kernel_rfl) | ((with_reducible apply And.intro); focus omega) | (refine z8 hK ?_; clear hK; simp only [go_sem, *]) | simp only [z7, z6, go_sem, *])
 refine w5 [0] s3 ?_
 simp only [go_sem, *]
 repeat' (first | (refine Qr rfl ?_; try intro _ hK; try simp only [go_sem, *]) | (refine Qi rfl rfl rfl rfl ?_ ?_ <;> (intro hb; (try intro _ hK); have hc := hb; try simp only [go_sem] at hc; simp only [go_sem, *])) | refine Qh rfl ?_ | refine Qd rfl (by kernel_rfl) ?_ | (refine Qc rfl rfl ?_ ?_ <;> (intro hb; have hc := hb; try simp only [go_sem] at hc)) | refine q6 rfl ?_ | (refine Qb ?_ ?_; focus kernel_rfl) | ((with_reducible apply And.intro); focus omega) | (refine z8 hK ?_; clear hK; simp only [go_sem, *]) | simp only [z7, z6, go_sem, *])
 refine p8 rfl (l.length) (fun i => NoQ i) 164 (fun i => [(6, iV i), (4, x4 r), (5, y4 l)]) (fun i => []) [] [1, 4] (by trivial) ?_; intro i hi hP
 clear hmap htk hll s0 s1 s2 s3
 by_cases hi2 : i < l.length
 ·have vi := hvl _ (l4 hi2)
  have ki := zCc vi
  have hwi : IntKind.i64.wrap ((i : Int) + 1) = ((i + 1 : Nat) : Int) := r6 (by omega)
  repeat' (first | (refine Qr rfl ?_; try intro _ hK; try simp only [go_sem, *]) | (refine Qi rfl rfl rfl rfl ?_ ?_ <;> (intro hb; (try intro _ hK); have hc := hb; try simp only [go_sem] at hc; simp only [go_sem, *])) | refine Qh rfl ?_ | refine Qd rfl (by kernel_rfl) ?_ | (refine Qc rfl rfl ?_ ?_ <;> (intro hb; have hc := hb; try simp only [go_sem] at hc)) | refine q6 rfl ?_ | (refine Qb ?_ ?_; focus kernel_rfl) | ((with_reducible apply And.intro); focus omega) | (refine z8 hK ?_; clear hK; simp only [go_sem, *]) | simp only [z7, z6, go_sem, *])
  all_goals first | contradiction | omega | skip
  refine p8 rfl (l.length) (fun k => NoQ k) 164 (fun k => [(7, iV k), (6, iV i), (4, x4 r), (5, y4 l)]) (fun k => []) [] [] (by trivial) ?_; intro k hk hQ
  by_cases hk2 : k < l.length
  ·have vk := hvl _ (l4 hk2)
   have kk := zCc vk
   have hwk : IntKind.i64.wrap ((k : Int) + 1) = ((k + 1 : Nat) : Int) := r6 (by omega)
   have u1 := E2 r _ _ hr vi vk
   have u2 := E2 r _ _ hr vk vi
   rw [← zEB vi vk] at u2
   have hz := zED (r := r) (a := l.getD i default) (b := l.getD k default)
   have hjn := fun c => zEC (r := r) (a := l.getD i default) (b := l.getD k default) (c := c)
   have hn := Z9 r (l.getD i default) (l.getD k default)
   have u3 := fun c (v : ValidN c) => E2 r (l.getD k default) c hr vk v
   have u4 := fun c (v : ValidN c) => E2 r (l.getD i default) c hr vi v
   generalize zLs r (l.getD i default) (l.getD k default) = n at *
   generalize zLm (l.getD i default) = a at *
   generalize zLm (l.getD k default) = b at *
   have hstep : (a = b ∧ n = 0) ∨ (¬ a = b ∧ ¬ n = 0) := by
    by_cases e : a = b
    ·exact .inl ⟨e, hz.2 e⟩
    ·exact .inr ⟨e, fun h => e (hz.1 h)⟩
   clear hz
   rcases hstep with ⟨h1, h2⟩ | ⟨h1, h2⟩
   ·subst h1 h2
    repeat' (first | (refine Qr rfl ?_; try intro _ hK; try simp only [go_sem, *]) | (refine Qi rfl rfl rfl rfl ?_ ?_ <;> (intro hb; (try intro _ hK); have hc := hb; try simp only [go_sem] at hc; simp only [go_sem, *])) | refine Qh rfl ?_ | refine Qd rfl (by kernel_rfl) ?_ | (refine Qc rfl rfl ?_ ?_ <;> (intro hb; have hc := hb; try simp only [go_sem] at hc)) | refine q6 rfl ?_ | (refine Qb ?_ ?_; focus kernel_rfl) | (refine y8 (u1) ?_ ?_; (focus (simp only [go_sem, *]; done)); simp only [go_sem, *]) | (refine y8 (u2) ?_ ?_; (focus (simp only [go_sem, *]; done)); simp only [go_sem, *]) | (refine y8 (ki) ?_ ?_; (focus (simp only [go_sem, *]; done)); simp only [go_sem, *]) | (refine y8 (kk) ?_ ?_; (focus (simp only [go_sem, *]; done)); simp only [go_sem, *]) | ((with_reducible apply And.intro); focus omega) | (refine z8 hK ?_; clear hK; simp only [go_sem, *]) | simp only [z7, z6, go_sem, *])
    all_goals try contradiction
    refine p8 rfl (l.length) (fun j => NoQ j) 164 (fun j => [(16, iV j), (8, iV 0), (7, iV k), (6, iV i), (4, x4 r), (5, y4 l)]) (fun j => []) [] [] (by trivial) ?_; intro j hj hR
    by_cases hj2 : j < l.length
    ·have vj := hvl _ (l4 hj2)
     have hwj : IntKind.i64.wrap ((j : Int) + 1) = ((j + 1 : Nat) : Int) := r6 (by omega)
     have u3 := u3 _ vj
     have u4 := u4 _ vj
     have hx := Z9 r (l.getD k default) (l.getD j default)
     have hjn := hjn (l.getD j default)
     generalize zLs r (l.getD k default) (l.getD j default) = x at *
     generalize zLs r (l.getD i default) (l.getD j default) = y at *
     have hw : IntKind.i64.wrap (0 + x) = 0 + x := wrap_i64 (by omega) (by omega)
     by_cases q : 0 + x ≤ 2
     ·have q2 : ¬ y > 0 + x := by have := hjn q; omega
      clear hjn hn hx
      repeat' (first | (refine Qr rfl ?_; try intro _ hK; try simp only [go_sem, *]) | (refine Qi rfl rfl rfl rfl ?_ ?_ <;> (intro hb; (try intro _ hK); have hc := hb; try simp only [go_sem] at hc; simp only [go_sem, *])) | refine Qh rfl ?_ | refine Qd rfl (by kernel_rfl) ?_ | (refine Qc rfl rfl ?_ ?_ <;> (intro hb; have hc := hb; try simp only [go_sem] at hc)) | refine q6 rfl ?_ | (refine Qb ?_ ?_; focus kernel_rfl) | (refine y8 (u3) ?_ ?_; (focus (simp only [go_sem, *]; done)); simp only [go_sem, *]) | (refine y8 (u4) ?_ ?_; (focus (simp only [go_sem, *]; done)); simp only [go_sem, *]) | ((with_reducible apply And.intro); focus omega) | (refine z8 hK ?_; clear hK; simp only [go_sem, *]) | simp only [z7, z6, go_sem, *])
      all_goals try contradiction
      exact p9 (i' := j + 1) [] [] (by trivial)
     ·clear hjn hn hx
      repeat' (first | (refine Qr rfl ?_; try intro _ hK; try simp only [go_sem, *]) | (refine Qi rfl rfl rfl rfl ?_ ?_ <;> (intro hb; (try intro _ hK); have hc := hb; try simp only [go_sem] at hc; simp only [go_sem, *])) | refine Qh rfl ?_ | refine Qd rfl (by kernel_rfl) ?_ | (refine Qc rfl rfl ?_ ?_ <;> (intro hb; have hc := hb; try simp only [go_sem] at hc)) | refine q6 rfl ?_ | (refine Qb ?_ ?_; focus kernel_rfl) | (refine y8 (u3) ?_ ?_; (focus (simp only [go_sem, *]; done)); simp only [go_sem, *]) | (refine y8 (u4) ?_ ?_; (focus (simp only [go_sem, *]; done)); simp only [go_sem, *]) | ((with_reducible apply And.intro); focus omega) | (refine z8 hK ?_; clear hK; simp only [go_sem, *]) | simp only [z7, z6, go_sem, *])
      all_goals try contradiction
      exact p9 (i' := j + 1) [] [] (by trivial)
    ·repeat' (first | (refine Qr rfl ?_; try intro _ hK; try simp only [go_sem, *]) | (refine Qi rfl rfl rfl rfl ?_ ?_ <;> (intro hb; (try intro _ hK); have hc := hb; try simp only [go_sem] at hc; simp only [go_sem, *])) | refine Qh rfl ?_ | refine Qd rfl (by kernel_rfl) ?_ | (refine Qc rfl rfl ?_ ?_ <;> (intro hb; have hc := hb; try simp only [go_sem] at hc)) | refine q6 rfl ?_ | (refine Qb ?_ ?_; focus kernel_rfl) | ((with_reducible apply And.intro); focus omega) | (refine z8 hK ?_; clear hK; simp only [go_sem, *]) | simp only [z7, z6, go_sem, *])
     all_goals first | contradiction | omega | skip
     exact p9 (i' := k + 1) [] [] (by trivial)
   ·have hb1 : (a == b) = false := by simpa using h1
    have hb2 : (n == 0) = false := by simpa using h2
    have hb3 : (n != n) = false := by simp
    repeat' (first | (refine Qr rfl ?_; try intro _ hK; try simp only [go_sem, *]) | (refine Qi rfl rfl rfl rfl ?_ ?_ <;> (intro hb; (try intro _ hK); have hc := hb; try simp only [go_sem] at hc; simp only [go_sem, *])) | refine Qh rfl ?_ | refine Qd rfl (by kernel_rfl) ?_ | (refine Qc rfl rfl ?_ ?_ <;> (intro hb; have hc := hb; try simp only [go_sem] at hc)) | refine q6 rfl ?_ | (refine Qb ?_ ?_; focus kernel_rfl) | (refine y8 (u1) ?_ ?_; (focus (simp only [go_sem, *]; done)); simp only [go_sem, *]) | (refine y8 (u2) ?_ ?_; (focus (simp only [go_sem, *]; done)); simp only [go_sem, *]) | (refine y8 (ki) ?_ ?_; (focus (simp only [go_sem, *]; done)); simp only [go_sem, *]) | (refine y8 (kk) ?_ ?_; (focus (simp only [go_sem, *]; done)); simp only [go_sem, *]) | ((with_reducible apply And.intro); focus omega) | (refine z8 hK ?_; clear hK; simp only [go_sem, *]) | simp only [z7, z6, go_sem, *])
    all_goals try contradiction
    refine p8 rfl (l.length) (fun j => NoQ j) 164 (fun j => [(16, iV j), (8, iV n), (7, iV k), (6, iV i), (4, x4 r), (5, y4 l)]) (fun j => []) [] [] (by trivial) ?_; intro j hj hR
    by_cases hj2 : j < l.length
    ·have vj := hvl _ (l4 hj2)
     have hwj : IntKind.i64.wrap ((j : Int) + 1) = ((j + 1 : Nat) : Int) := r6 (by omega)
     have u3 := u3 _ vj
     have u4 := u4 _ vj
     have hx := Z9 r (l.getD k default) (l.getD j default)
     have hjn := hjn (l.getD j default)
     generalize zLs r (l.getD k default) (l.getD j default) = x at *
     generalize zLs r (l.getD i default) (l.getD j default) = y at *
     have hw : IntKind.i64.wrap (n + x) = n + x := wrap_i64 (by omega) (by omega)
     by_cases q : n + x ≤ 2
     ·have q2 : ¬ y > n + x := by have := hjn q; omega
      clear hjn hn hx
      repeat' (first | (refine Qr rfl ?_; try intro _ hK; try simp only [go_sem, *]) | (refine Qi rfl rfl rfl rfl ?_ ?_ <;> (intro hb; (try intro _ hK); have hc := hb; try simp only [go_sem] at hc; simp only [go_sem, *])) | refine Qh rfl ?_ | refine Qd rfl (by kernel_rfl) ?_ | (refine Qc rfl rfl ?_ ?_ <;> (intro hb; have hc := hb; try simp only [go_sem] at hc)) | refine q6 rfl ?_ | (refine Qb ?_ ?_; focus kernel_rfl) | (refine y8 (u3) ?_ ?_; (focus (simp only [go_sem, *]; done)); simp only [go_sem, *]) | (refine y8 (u4) ?_ ?_; (focus (simp only [go_sem, *]; done)); simp only [go_sem, *]) | ((with_reducible apply And.intro); focus omega) | (refine z8 hK ?_; clear hK; simp only [go_sem, *]) | simp only [z7, z6, go_sem, *])
      all_goals try contradiction
      exact p9 (i' := j + 1) [] [] (by trivial)
     ·clear hjn hn hx
      repeat' (first | (refine Qr rfl ?_; try intro _ hK; try simp only [go_sem, *]) | (refine Qi rfl rfl rfl rfl ?_ ?_ <;> (intro hb; (try intro _ hK); have hc := hb; try simp only [go_sem] at hc; simp only [go_sem, *])) | refine Qh rfl ?_ | refine Qd rfl (by kernel_rfl) ?_ | (refine Qc rfl rfl ?_ ?_ <;> (intro hb; have hc := hb; try simp only [go_sem] at hc)) | refine q6 rfl ?_ | (refine Qb ?_ ?_; focus kernel_rfl) | (refine y8 (u3) ?_ ?_; (focus (simp only [go_sem, *]; done)); simp only [go_sem, *]) | (refine y8 (u4) ?_ ?_; (focus (simp only [go_sem, *]; done)); simp only [go_sem, *]) | ((with_reducible apply And.intro); focus omega) | (refine z8 hK ?_; clear hK; simp only [go_sem, *]) | simp only [z7, z6, go_sem, *])
      all_goals try contradiction
      exact p9 (i' := j + 1) [] [] (by trivial)
    ·repeat' (first | (refine Qr rfl ?_; try intro _ hK; try simp only [go_sem, *]) | (refine Qi rfl rfl rfl rfl ?_ ?_ <;> (intro hb; (try intro _ hK); have hc := hb; try simp only [go_sem] at hc; simp only [go_sem, *])) | refine Qh rfl ?_ | refine Qd rfl (by kernel_rfl) ?_ | (refine Qc rfl rfl ?_ ?_ <;> (intro hb; have hc := hb; try simp only [go_sem] at hc)) | refine q6 rfl ?_ | (refine Qb ?_ ?_; focus kernel_rfl) | ((with_reducible apply And.intro); focus omega) | (refine z8 hK ?_; clear hK; simp only [go_sem, *]) | simp only [z7, z6, go_sem, *])
     all_goals first | contradiction | omega | skip
     exact p9 (i' := k + 1) [] [] (by trivial)
  ·repeat' (first | (refine Qr rfl ?_; try intro _ hK; try simp only [go_sem, *]) | (refine Qi rfl rfl rfl rfl ?_ ?_ <;> (intro hb; (try intro _ hK); have hc := hb; try simp only [go_sem] at hc; simp only [go_sem, *])) | refine Qh rfl ?_ | refine Qd rfl (by kernel_rfl) ?_ | (refine Qc rfl rfl ?_ ?_ <;> (intro hb; have hc := hb; try simp only [go_sem] at hc)) | refine q6 rfl ?_ | (refine Qb ?_ ?_; focus kernel_rfl) | ((with_reducible apply And.intro); focus omega) | (refine z8 hK ?_; clear hK; simp only [go_sem, *]) | simp only [z7, z6, go_sem, *])
   all_goals first | contradiction | omega | skip
   exact p9 (i' := i + 1) [] [] (by trivial)
 ·repeat' (first | (refine Qr rfl ?_; try intro _ hK; try simp only [go_sem, *]) | (refine Qi rfl rfl rfl rfl ?_ ?_ <;> (intro hb; (try intro _ hK); have hc := hb; try simp only [go_sem] at hc; simp only [go_sem, *])) | refine Qh rfl ?_ | refine Qd rfl (by kernel_rfl) ?_ | (refine Qc rfl rfl ?_ ?_ <;> (intro hb; have hc := hb; try simp only [go_sem] at hc)) | refine q6 rfl ?_ | (refine Qb ?_ ?_; focus kernel_rfl) | (refine q9 (sS) ?_; simp only [go_sem, *]) | ((with_reducible apply And.intro); focus omega) | (refine z8 hK ?_; clear hK; simp only [go_sem, *]) | simp only [z7, z6, go_sem, *])
  all_goals first | contradiction | omega | skip
  (refine ⟨[_], [], [], ⟨rfl, trivial⟩, ?_⟩; simp only [go_sem, *])
end Go.Abs

