/-
  WHAT THE PROOF STANDS ON, PART 5: contracts of the program's functions and the logic that they are proved in. No condition.
-/
import Derived.Test.YteehcinnfiaklaaGreatDoorQE4
set_option maxRecDepth 100000
set_option maxHeartbeats 4000000
set_option linter.unusedVariables false
set_option linter.unusedSimpArgs false
set_option linter.unusedSectionVars false
namespace Go.Abs
open Go Go.Proofs Tryz
attribute [local irreducible] y4 Hold y9
theorem zE2 {α : Type} (cmp : α → α → Int) (B : Option α) : x6 cmp B [] = B := by cases B <;> rfl
theorem zC0 : ∀ (n : Nat) (D : ChainD) (now : Str) (pre : List Str) (B : Option (List Str)), (pre.length : Int) + n = D.many → pre.length + n ≤ 100 → x7 now 1 12 = true → W3 B → D.l.length ≤ 1000 → (∀ r, r ∈ D.l → r.src.length ≤ 1000 ∧ r.dst.length ≤ 1000) →
  zNF prog 147 (P6 now pre) (i9 0 D B) (bV true) (i9 0 D (x6 zNM B (o0 D.l D.to n now pre)))
 | 0, D, now, pre, B, hm, hp, hn, hB, hl, hr => by
  rw [o0]
  by_cases q : now = D.to
  ·rw [if_pos q]; exact zIN D now pre B (by simpa using hm) (by omega) q hB
  ·rw [if_neg q, zE2]; exact zIM D now pre B (by simpa using hm) (by omega) q
 | n + 1, D, now, pre, B, hm, hp, hn, hB, hl, hr => zIO D n (zC0 n) now pre B hm hp hn hB hl hr
theorem zIG (D : ChainD) (k : Str) (n : Nat) (B : Option (List Str)) (hm : (n : Int) = D.many) (hp : n ≤ 100) (hk1 : x7 k 1 12 = true) (hB : W3 B) (hl : D.l.length ≤ 1000) (hr : ∀ r, r ∈ D.l → r.src.length ≤ 1000 ∧ r.dst.length ≤ 1000) :
  zNF prog 146 [.yld 0, .ptr 4 0, .ptr 5 0, .ptr 6 0, .ptr 7 0] [.loopo (f0 D.fnF) [(3, .ptr 1 0), (6, .ptr 2 0), (7, .ptr 3 0)] (some none), .box [a8], .box [p4 B], .box [bV B.isSome], .box [iV D.many], .box [sV D.to], .box [w8 D.l], .box [sV k]] (.tup [])
   [.loopo (f0 D.fnF) [(3, .ptr 1 0), (6, .ptr 2 0), (7, .ptr 3 0)] (some none), .box [a8], .box [p4 (x6 zNM B (o0 D.l D.to n k []))], .box [bV (x6 zNM B (o0 D.l D.to n k [])).isSome], .box [iV D.many], .box [sV D.to], .box [w8 D.l], .box [sV k]] := by
 have hca : t7 prog 147 = true := by kernel_rfl
 have sg := zC0 n D k [] B (by simpa using hm) (by simpa using hp) hk1 hB hl hr
 generalize x6 zNM B (o0 D.l D.to n k []) = B' at *
 clear hr
 refine q9 func146 rfl (fun E hE => ?_); simp only [go_sem, ntmps146]
 repeat' (first | (refine Qr rfl ?_; try intro _ hK; try simp only [go_sem, *]) | refine Qh rfl ?_ | (refine Qc rfl rfl ?_ ?_ <;> (intro hb; have hc := hb; try simp only [go_sem] at hc)) | refine q8 rfl ?_ | ((with_reducible apply And.intro); focus omega) | (refine q7 hK ?_; clear hK; simp only [go_sem, *]) | simp only [q6, z8, go_sem, *])
 refine v8 [4, 5, 8, 6, 9, 0, 1, 2, 3] sg ?_
 simp only [go_sem, *]
 repeat' (first | (refine Qr rfl ?_; try intro _ hK; try simp only [go_sem, *]) | refine Qh rfl ?_ | (refine Qc rfl rfl ?_ ?_ <;> (intro hb; have hc := hb; try simp only [go_sem] at hc)) | refine q8 rfl ?_ | ((with_reducible apply And.intro); focus omega) | (refine q7 hK ?_; clear hK; simp only [go_sem, *]) | simp only [q6, z8, go_sem, *])
 refine ⟨[], [some 0, some 1, some 2, some 3, some 4, some 5, some 6, some 7], [], trivial, ?_⟩
 simp only [go_sem, f5, *]
theorem zIF (k : Str) (l : List Rule) (to : Str) (many : Int) : zNF prog 125 [sV k, w8 l, sV to, iV many] [] (.fn 146 [.ptr 0 0, .ptr 1 0, .ptr 2 0, .ptr 3 0]) [.box [iV many], .box [sV to], .box [w8 l], .box [sV k]] := by
 refine q9 func125 rfl (fun E hE => ?_); simp only [go_sem, ntmps125]
 repeat' (first | (refine Qr rfl ?_; try intro _ hK; try simp only [go_sem, *]) | refine Qh rfl ?_ | (refine Qc rfl rfl ?_ ?_ <;> (intro hb; have hc := hb; try simp only [go_sem] at hc)) | refine q8 rfl ?_ | ((with_reducible apply And.intro); focus omega) | (refine q7 hK ?_; clear hK; simp only [go_sem, *]) | simp only [q6, z8, go_sem, *])
 refine ⟨[_], [some 3, some 2, some 1, some 0], [], ⟨rfl, trivial⟩, ?_⟩
 simp only [go_sem, *]
theorem zIK (k : Str) (l : List Rule) (to : Str) (n : Nat) (hp : n ≤ 100) (hk1 : x7 k 1 12 = true) (hl : l.length ≤ 1000) (hr : ∀ r, r ∈ l → r.src.length ≤ 1000 ∧ r.dst.length ≤ 1000) :
  zNF prog 124 [.fn 146 [.ptr 0 0, .ptr 1 0, .ptr 2 0, .ptr 3 0], a8] [.box [iV n], .box [sV to], .box [w8 l], .box [sV k]] (.tup [p4 (Y6 l n k to), bV (Y6 l n k to).isSome]) [.box [iV n], .box [sV to], .box [w8 l], .box [sV k]] := by
 have s1 := fun fn => zIG ⟨n, to, l, 0, fn⟩ k n none rfl hp hk1 (fun b h => by cases h) hl hr
 have e : Y6 l n k to = x6 zNM none (o0 l to n k []) := rfl
 rw [e]
 simp only at s1
 generalize x6 zNM none (o0 l to n k []) = B at *
 clear hr e
 refine q9 func124 rfl (fun E hE => ?_); simp only [go_sem, ntmps124]
 repeat' (first | (refine Qr rfl ?_; try intro _ hK; try simp only [go_sem, *]) | refine Qh rfl ?_ | refine Qd rfl (by kernel_rfl) ?_ | (refine Qc rfl rfl ?_ ?_ <;> (intro hb; have hc := hb; try simp only [go_sem] at hc)) | refine q8 rfl ?_ | (refine Qb ?_ ?_; focus kernel_rfl) | ((with_reducible apply And.intro); focus omega) | (refine q7 hK ?_; clear hK; simp only [go_sem, *]) | simp only [q6, z8, go_sem, *])
 refine T5 (N := 23) (env := [(9, .fn 146 [.ptr 0 0, .ptr 1 0, .ptr 2 0, .ptr 3 0]), (3, .ptr 4 0), (6, .ptr 5 0), (7, .ptr 6 0)]) (As := [.box [iV n], .box [sV to], .box [w8 l], .box [sV k], .box [a8], .box [p4 none], .box [bV false]]) [some 0, some 1, some 2, some 3, some 4, some 5, some 6] [] (by (simp only [Weak, go_sem, List.map_append, List.map_set, *] <;> (try simp (disch := omega) only [t6]) <;> (try simp) <;> (try omega))) ?_
 refine E0 (f := 146) (caps := [.ptr 0 0, .ptr 1 0, .ptr 2 0, .ptr 3 0]) rfl (by simp only [go_sem]) (by kernel_rfl) (nx := 7) (by simp only [go_sem]) (fun fn => ⟨8, ?_⟩)
 refine r7 [7, 4, 5, 6, 0, 1, 2, 3] [] (s1 fn) (by simp) (by simp only [go_sem]) ?_ (by simp) (.inl rfl) (by simp [go_sem]) (by simp [go_sem]) ?_
 ·simp only [go_sem, *]
  first | rfl | exact ⟨rfl, rfl⟩
 ·simp only [go_sem, *]
  refine ⟨f0 fn, [(3, .ptr 4 0), (6, .ptr 5 0), (7, .ptr 6 0)], none, by simp only [go_sem], ?_⟩
  simp only [go_sem]
  repeat' (first | (refine Qr rfl ?_; try intro _ hK; try simp only [go_sem, *]) | refine Qh rfl ?_ | refine Qd rfl (by kernel_rfl) ?_ | (refine Qc rfl rfl ?_ ?_ <;> (intro hb; have hc := hb; try simp only [go_sem] at hc)) | refine q8 rfl ?_ | (refine Qb ?_ ?_; focus kernel_rfl) | ((with_reducible apply And.intro); focus omega) | (refine q7 hK ?_; clear hK; simp only [go_sem, *]) | simp only [q6, z8, go_sem, *])
  refine ⟨[_, _], [some 0, some 1, some 2, some 3], [], ⟨rfl, rfl, trivial⟩, ?_⟩
  simp only [go_sem, *]
end Go.Abs

namespace Go.Abs
open Go
theorem zGl {c : UInt8} (hc : v7 c = true) : y8 c = false := by
 unfold v7 at hc
 unfold y8
 rw [Bool.and_eq_true, Bool.and_eq_true, decide_eq_true_eq, decide_eq_true_eq] at hc
 simp; omega
theorem ValidN.mem0 {s : Str} (v : ValidN s) : s.getD 0 0 ∈ s := by
 cases s with
 | nil => have := v.ne; simp at this
 | cons c r => simp
theorem ValidN.latin {s : Str} (v : ValidN s) (h : y8 (s.getD 0 0) = true) : s.all y8 = true := by
 have hf := v.form
 unfold l6 at hf
 rw [Bool.or_eq_true] at hf
 rcases hf with hf | hf
 ·exact hf
 ·have := zGl (List.all_eq_true.1 hf _ v.mem0)
  rw [h] at this; cases this
theorem ValidN.other {s : Str} (v : ValidN s) (h : y8 (s.getD 0 0) = false) : s.all v7 = true := by
 have hf := v.form
 unfold l6 at hf
 rw [Bool.or_eq_true] at hf
 rcases hf with hf | hf
 ·have := List.all_eq_true.1 hf _ v.mem0
  rw [h] at this; cases this
 ·exact hf
theorem ValidN.check {s : Str} (v : ValidN s) : x4 s = 0 := checkN_zero.2 v
end Go.Abs

namespace Go.Abs
open Go Go.Proofs Tryz
attribute [local irreducible] y4 Hold y9
theorem zHH {r : List Rule} (h : j7 r = 0) : r.length ≤ 4 ∧ ∀ x, x ∈ r → x.src.length ≤ 2 ∧ x.dst.length ≤ 2 := by
 unfold j7 at h
 by_cases h4 : 4 < r.length
 ·rw [if_pos h4] at h; cases h
 ·rw [if_neg h4] at h
  by_cases ha : r.all Rule.ok = true
  ·refine ⟨by omega, fun x hx => ?_⟩
   have := List.all_eq_true.1 ha x hx
   unfold Rule.ok x7 at this
   simp only [Bool.and_eq_true, decide_eq_true_eq] at this
   exact ⟨this.1.2.1, this.2.1.2.1⟩
  ·rw [if_neg ha] at h; cases h
theorem zGu {a b : Str} (h : v6 [a, b] = 0) : ValidN a ∧ ValidN b := by
 rw [zCX] at h
 by_cases q : x4 a = 0
 ·rw [if_pos q] at h; exact ⟨checkN_zero.1 q, checkN_zero.1 h⟩
 ·rw [if_neg q] at h; exact absurd h q
theorem zEX {α : Type} {f : Nat → Option α} {i : Nat} (h : i < 3) : o6 f (List.range' i (3 - i)) = match f i with
  | some b => some b
  | none => o6 f (List.range' (i + 1) (3 - (i + 1))) := by
 obtain rfl | rfl | rfl : i = 0 ∨ i = 1 ∨ i = 2 := by omega
 all_goals rfl
def R8 (k : Str) (l : List Rule) (to : Str) : Option (List Str) := o6 (fun n => Y6 l n k to) [0, 1, 2]
theorem zIE (k : Str) (l : List Rule) (to : Str) (hk1 : x7 k 1 12 = true) (hl : l.length ≤ 1000) (hr : ∀ r, r ∈ l → r.src.length ≤ 1000 ∧ r.dst.length ≤ 1000) :
  zNF prog 88 [sV k, w8 l, sV to] [] (.tup [p4 (R8 k l to), bV (R8 k l to).isSome]) [] := by
 have hca : t7 prog 126 = true := by kernel_rfl
 obtain ⟨T, hT⟩ : ∃ T, R8 k l to = T := ⟨_, rfl⟩
 rw [hT]
 have h0 : o6 (fun n => Y6 l n k to) (List.range' 0 (3 - 0)) = T := hT
 clear hT
 have s1 := zIF k l to
 have s2 := fun n hn => zIK k l to n hn hk1 hl hr
 clear hk1 hl hr
 refine q9 func88 rfl (fun E hE => ?_); simp only [go_sem, ntmps88]
 repeat' (first | (refine Qr rfl ?_; try intro _ hK; try simp only [go_sem, *]) | refine Qh rfl ?_ | (refine Qc rfl rfl ?_ ?_ <;> (intro hb; have hc := hb; try simp only [go_sem] at hc)) | refine q8 rfl ?_ | ((with_reducible apply And.intro); focus omega) | (refine q7 hK ?_; clear hK; simp only [go_sem, *]) | simp only [q6, z8, go_sem, *])
 refine n0 rfl (3) (fun i => o6 (fun n => Y6 l n k to) (List.range' i (3 - i)) = T) 26 (fun i => [(11, iV i), (0, sV k), (1, w8 l), (2, sV to)]) (fun i => []) [] [] (by exact h0) ?_; intro i hi hP
 clear h0
 by_cases hi2 : i < 3
 ·rw [zEX hi2] at hP
  have s1 := s1 (i : Int)
  have s2 := s2 i (by omega)
  have hi3 : (i : Int) < 3 := by omega
  have hw : IntKind.i64.wrap ((i : Int) + 1) = ((i + 1 : Nat) : Int) := t6 (by omega)
  cases hc : Y6 l i k to with
  | some c =>
   rw [hc] at hP s2
   have hP : some c = T := hP
   subst hP
   clear hc
   repeat' (first | (refine Qr rfl ?_; try intro _ hK; try simp only [go_sem, *]) | refine Qh rfl ?_ | (refine Qc rfl rfl ?_ ?_ <;> (intro hb; have hc := hb; try simp only [go_sem] at hc)) | refine q8 rfl ?_ | ((with_reducible apply And.intro); focus omega) | (refine q7 hK ?_; clear hK; simp only [go_sem, *]) | simp only [q6, z8, go_sem, *])
   refine j1 s1 ?_ (hu := by (intro j hj; simp only [List.length_cons, List.length_nil] at hj; (obtain rfl | rfl | rfl | rfl : j = 0 ∨ j = 1 ∨ j = 2 ∨ j = 3 := by omega) <;> simp [go_sem]))
   simp only [go_sem, *]
   repeat' (first | (refine Qr rfl ?_; try intro _ hK; try simp only [go_sem, *]) | refine Qh rfl ?_ | (refine Qc rfl rfl ?_ ?_ <;> (intro hb; have hc := hb; try simp only [go_sem] at hc)) | refine q8 rfl ?_ | ((with_reducible apply And.intro); focus omega) | (refine q7 hK ?_; clear hK; simp only [go_sem, *]) | simp only [q6, z8, go_sem, *])
   refine v8 [0, 1, 2, 3] s2 ?_
   simp only [go_sem, *]
   repeat' (first | (refine Qr rfl ?_; try intro _ hK; try simp only [go_sem, *]) | refine Qh rfl ?_ | (refine Qc rfl rfl ?_ ?_ <;> (intro hb; have hc := hb; try simp only [go_sem] at hc)) | refine q8 rfl ?_ | ((with_reducible apply And.intro); focus omega) | (refine q7 hK ?_; clear hK; simp only [go_sem, *]) | simp only [q6, z8, go_sem, *])
   all_goals try contradiction
   (refine ⟨[_, _], [], [], ⟨rfl, rfl, trivial⟩, ?_⟩; simp only [go_sem, *])
  | none =>
   rw [hc] at hP s2
   have hP : o6 (fun n => Y6 l n k to) (List.range' (i + 1) (3 - (i + 1))) = T := hP
   clear hc
   repeat' (first | (refine Qr rfl ?_; try intro _ hK; try simp only [go_sem, *]) | refine Qh rfl ?_ | (refine Qc rfl rfl ?_ ?_ <;> (intro hb; have hc := hb; try simp only [go_sem] at hc)) | refine q8 rfl ?_ | ((with_reducible apply And.intro); focus omega) | (refine q7 hK ?_; clear hK; simp only [go_sem, *]) | simp only [q6, z8, go_sem, *])
   refine j1 s1 ?_ (hu := by (intro j hj; simp only [List.length_cons, List.length_nil] at hj; (obtain rfl | rfl | rfl | rfl : j = 0 ∨ j = 1 ∨ j = 2 ∨ j = 3 := by omega) <;> simp [go_sem]))
   simp only [go_sem, *]
   repeat' (first | (refine Qr rfl ?_; try intro _ hK; try simp only [go_sem, *]) | refine Qh rfl ?_ | (refine Qc rfl rfl ?_ ?_ <;> (intro hb; have hc := hb; try simp only [go_sem] at hc)) | refine q8 rfl ?_ | ((with_reducible apply And.intro); focus omega) | (refine q7 hK ?_; clear hK; simp only [go_sem, *]) | simp only [q6, z8, go_sem, *])
   refine v8 [0, 1, 2, 3] s2 ?_
   simp only [go_sem, *]
   repeat' (first | (refine Qr rfl ?_; try intro _ hK; try simp only [go_sem, *]) | refine Qh rfl ?_ | (refine Qc rfl rfl ?_ ?_ <;> (intro hb; have hc := hb; try simp only [go_sem] at hc)) | refine q8 rfl ?_ | ((with_reducible apply And.intro); focus omega) | (refine q7 hK ?_; clear hK; simp only [go_sem, *]) | simp only [q6, z8, go_sem, *])
   all_goals try contradiction
   exact d7 (i' := i + 1) [] [] (by exact hP)
 ·have e : 3 - i = 0 := by omega
  rw [e] at hP
  have hP : none = T := hP
  subst hP
  have hi3 : ¬ (i : Int) < 3 := by omega
  clear s1 s2
  repeat' (first | (refine Qr rfl ?_; try intro _ hK; try simp only [go_sem, *]) | refine Qh rfl ?_ | (refine Qc rfl rfl ?_ ?_ <;> (intro hb; have hc := hb; try simp only [go_sem] at hc)) | refine q8 rfl ?_ | ((with_reducible apply And.intro); focus omega) | (refine q7 hK ?_; clear hK; simp only [go_sem, *]) | simp only [q6, z8, go_sem, *])
  all_goals try contradiction
  (refine ⟨[_, _], [], [], ⟨rfl, rfl, trivial⟩, ?_⟩; simp only [go_sem, *])
  all_goals rfl
def R9 (r : List Rule) (a b : Str) : Option (List Str) := if b4 r a b = 0 then M9 r a b else none
theorem zAK {r : List Rule} {a b : Str} (q : j7 r = 0) : b4 r a b = v6 [a, b] := by
 unfold b4; rw [if_pos q, zCX]
theorem zET {r : List Rule} {a b : Str} (h : b4 r a b = 0) : R9 r a b = R8 (zNG a) r (zNG b) := if_pos h
theorem zES {r : List Rule} {a b : Str} (h : b4 r a b = 0) : e8 r a b = if (R8 (zNG a) r (zNG b)).isSome = true then 0 else 11 := if_pos h
theorem zHn (r : List Rule) (a b : Str) (hl : r.length ≤ 4294967296) (hr : ∀ x, x ∈ r → x.src.length ≤ 4294967296 ∧ x.dst.length ≤ 4294967296) :
  zNF prog 38 [w8 r, sV a, sV b] [] (.tup [p4 (R9 r a b), iV (e8 r a b)]) [] := by
 have s1 := zIh r hl hr
 have sc : zNF prog 87 [.list [sV a, sV b]] [] (iV (v6 [a, b])) [] := zCx [a, b] (by simp)
 by_cases q1 : j7 r = 0
 ·rw [q1] at s1
  by_cases q2 : v6 [a, b] = 0
  ·obtain ⟨va, vb⟩ := zGu q2
   have hp : b4 r a b = 0 := by rw [zAK q1, q2]
   obtain ⟨h4, h5⟩ := zHH q1
   have s2 := X8 a va.form (by have := va.len; omega)
   have s3 := X8 b vb.form (by have := vb.len; omega)
   have s4 := zIE (zNG a) r (zNG b) (K1 va) (by omega) (fun x hx => by have := h5 x hx; omega)
   rw [zET hp, zES hp]
   rw [q2] at sc
   generalize R8 (zNG a) r (zNG b) = o at *
   generalize zNG a = ka at *
   generalize zNG b = kb at *
   clear q1 q2 va vb hp h4 h5 hl hr
   cases o with
   | none =>
    simp only [Option.isSome_none, Bool.false_eq_true, if_false] at s4 ⊢
    refine q9 func38 rfl (fun E hE => ?_); simp only [go_sem, ntmps38]
    repeat' (first | (refine Qr rfl ?_; try intro _ hK; try simp only [go_sem, *]) | refine Qh rfl ?_ | (refine Qc rfl rfl ?_ ?_ <;> (intro hb; have hc := hb; try simp only [go_sem] at hc)) | refine q8 rfl ?_ | (refine y5 (s1) ?_; simp only [go_sem, *]) | ((with_reducible apply And.intro); focus omega) | (refine q7 hK ?_; clear hK; simp only [go_sem, *]) | simp only [q6, z8, go_sem, *])
    all_goals try contradiction
    (refine R7 [0] (sc) (by simp only [go_sem, *]) (.raw _) ?_; simp only [go_sem, *])
    repeat' (first | (refine Qr rfl ?_; try intro _ hK; try simp only [go_sem, *]) | refine Qh rfl ?_ | (refine Qc rfl rfl ?_ ?_ <;> (intro hb; have hc := hb; try simp only [go_sem] at hc)) | refine q8 rfl ?_ | (refine x5 (s2) ?_ ?_; (focus (simp only [go_sem, *]; done)); simp only [go_sem, *]) | (refine x5 (s3) ?_ ?_; (focus (simp only [go_sem, *]; done)); simp only [go_sem, *]) | (refine y5 (s4) ?_; simp only [go_sem, *]) | ((with_reducible apply And.intro); focus omega) | (refine q7 hK ?_; clear hK; simp only [go_sem, *]) | simp only [q6, z8, go_sem, *])
    all_goals try contradiction
    (refine ⟨[_, _], [], [], ⟨rfl, rfl, trivial⟩, ?_⟩; simp only [go_sem, *])
   | some c =>
    simp only [Option.isSome_some, if_true] at s4 ⊢
    refine q9 func38 rfl (fun E hE => ?_); simp only [go_sem, ntmps38]
    repeat' (first | (refine Qr rfl ?_; try intro _ hK; try simp only [go_sem, *]) | refine Qh rfl ?_ | (refine Qc rfl rfl ?_ ?_ <;> (intro hb; have hc := hb; try simp only [go_sem] at hc)) | refine q8 rfl ?_ | (refine y5 (s1) ?_; simp only [go_sem, *]) | ((with_reducible apply And.intro); focus omega) | (refine q7 hK ?_; clear hK; simp only [go_sem, *]) | simp only [q6, z8, go_sem, *])
    all_goals try contradiction
    (refine R7 [0] (sc) (by simp only [go_sem, *]) (.raw _) ?_; simp only [go_sem, *])
    repeat' (first | (refine Qr rfl ?_; try intro _ hK; try simp only [go_sem, *]) | refine Qh rfl ?_ | (refine Qc rfl rfl ?_ ?_ <;> (intro hb; have hc := hb; try simp only [go_sem] at hc)) | refine q8 rfl ?_ | (refine x5 (s2) ?_ ?_; (focus (simp only [go_sem, *]; done)); simp only [go_sem, *]) | (refine x5 (s3) ?_ ?_; (focus (simp only [go_sem, *]; done)); simp only [go_sem, *]) | (refine y5 (s4) ?_; simp only [go_sem, *]) | ((with_reducible apply And.intro); focus omega) | (refine q7 hK ?_; clear hK; simp only [go_sem, *]) | simp only [q6, z8, go_sem, *])
    all_goals try contradiction
    (refine ⟨[_, _], [], [], ⟨rfl, rfl, trivial⟩, ?_⟩; simp only [go_sem, *])
  ·have hp : ¬ b4 r a b = 0 := by rw [zAK q1]; exact q2
   have e1 : R9 r a b = none := if_neg hp
   have e2 : e8 r a b = v6 [a, b] := by unfold e8; rw [if_neg hp, zAK q1]
   rw [e1, e2]
   clear e1 e2 hp q1 hl hr
   generalize v6 [a, b] = e at *
   refine q9 func38 rfl (fun E hE => ?_); simp only [go_sem, ntmps38]
   repeat' (first | (refine Qr rfl ?_; try intro _ hK; try simp only [go_sem, *]) | refine Qh rfl ?_ | (refine Qc rfl rfl ?_ ?_ <;> (intro hb; have hc := hb; try simp only [go_sem] at hc)) | refine q8 rfl ?_ | (refine y5 (s1) ?_; simp only [go_sem, *]) | ((with_reducible apply And.intro); focus omega) | (refine q7 hK ?_; clear hK; simp only [go_sem, *]) | simp only [q6, z8, go_sem, *])
   all_goals try contradiction
   (refine R7 [0] (sc) (by simp only [go_sem, *]) (.raw _) ?_; simp only [go_sem, *])
   repeat' (first | (refine Qr rfl ?_; try intro _ hK; try simp only [go_sem, *]) | refine Qh rfl ?_ | (refine Qc rfl rfl ?_ ?_ <;> (intro hb; have hc := hb; try simp only [go_sem] at hc)) | refine q8 rfl ?_ | ((with_reducible apply And.intro); focus omega) | (refine q7 hK ?_; clear hK; simp only [go_sem, *]) | simp only [q6, z8, go_sem, *])
   all_goals try contradiction
   (refine ⟨[_, _], [], [], ⟨rfl, rfl, trivial⟩, ?_⟩; simp only [go_sem, *])
 ·have hp : b4 r a b = j7 r := by unfold b4; rw [if_neg q1]
  have e1 : R9 r a b = none := if_neg (by rw [hp]; exact q1)
  have e2 : e8 r a b = j7 r := by unfold e8; rw [hp, if_neg q1]
  rw [e1, e2]
  clear e1 e2 hp hl hr sc
  generalize j7 r = e at *
  refine q9 func38 rfl (fun E hE => ?_); simp only [go_sem, ntmps38]
  repeat' (first | (refine Qr rfl ?_; try intro _ hK; try simp only [go_sem, *]) | refine Qh rfl ?_ | (refine Qc rfl rfl ?_ ?_ <;> (intro hb; have hc := hb; try simp only [go_sem] at hc)) | refine q8 rfl ?_ | (refine y5 (s1) ?_; simp only [go_sem, *]) | ((with_reducible apply And.intro); focus omega) | (refine q7 hK ?_; clear hK; simp only [go_sem, *]) | simp only [q6, z8, go_sem, *])
  all_goals try contradiction
  (refine ⟨[_, _], [], [], ⟨rfl, rfl, trivial⟩, ?_⟩; simp only [go_sem, *])
end Go.Abs

namespace Go.Abs
open Go Go.Proofs Tryz
attribute [local irreducible] y4 Hold y9
def zLl (r : List Rule) (s : Str) (l : List Str) (m : Nat) : List Int := (List.range' m (3 - m)).flatMap fun (n : Nat) => G7 r s l n 0
end Go.Abs

namespace Go.Abs
open Go Go.Proofs Tryz
attribute [local irreducible] y4 Hold y9
def W1 (s p : Str) : Str := if p.isPrefixOf s = true then s.drop p.length else s
theorem zIB (s p : Str) (h1 : s.length ≤ 4294967296) (h2 : p.length ≤ 4294967296) : zNF prog 161 [sV s, sV p] [] (sV (W1 s p)) [] := by
 have sh := zCs s p h1 h2
 unfold W1
 cases q : p.isPrefixOf s
 ·rw [q] at sh
  rw [if_neg (by decide)]
  clear q
  refine q9 func161 rfl (fun E hE => ?_); simp only [go_sem, ntmps161]
  repeat' (first | (refine Qr rfl ?_; try intro _ hK; try simp only [go_sem, *]) | refine Qh rfl ?_ | (refine Qc rfl rfl ?_ ?_ <;> (intro hb; have hc := hb; try simp only [go_sem] at hc)) | refine q8 rfl ?_ | (refine y5 (sh) ?_; simp only [go_sem, *]) | ((with_reducible apply And.intro); focus omega) | (refine q7 hK ?_; clear hK; simp only [go_sem, *]) | simp only [q6, z8, go_sem, *])
  all_goals try contradiction
  (refine ⟨[_], [], [], ⟨rfl, trivial⟩, ?_⟩; simp only [go_sem, *])
 ·rw [q] at sh
  have hpl := zCa q
  rw [if_pos rfl]
  clear q
  refine q9 func161 rfl (fun E hE => ?_); simp only [go_sem, ntmps161]
  repeat' (first | (refine Qr rfl ?_; try intro _ hK; try simp only [go_sem, *]) | refine Qh rfl ?_ | (refine Qc rfl rfl ?_ ?_ <;> (intro hb; have hc := hb; try simp only [go_sem] at hc)) | refine q8 rfl ?_ | (refine y5 (sh) ?_; simp only [go_sem, *]) | ((with_reducible apply And.intro); focus omega) | (refine q7 hK ?_; clear hK; simp only [go_sem, *]) | simp only [q6, z8, go_sem, *])
  all_goals try contradiction
  (refine ⟨[_], [], [], ⟨rfl, trivial⟩, ?_⟩; simp only [go_sem, *])
theorem zIA (s p : Str) (h1 : s.length ≤ 4294967296) (h2 : p.length ≤ 4294967296) : zNF prog 136 [sV s, sV p] [] (sV (W1 s p)) [] := by
 have sh := zIB s p h1 h2
 generalize W1 s p = t at *
 refine q9 func136 rfl (fun E hE => ?_); simp only [go_sem, ntmps136]
 repeat' (first | (refine Qr rfl ?_; try intro _ hK; try simp only [go_sem, *]) | refine Qh rfl ?_ | (refine Qc rfl rfl ?_ ?_ <;> (intro hb; have hc := hb; try simp only [go_sem] at hc)) | refine q8 rfl ?_ | (refine y5 (sh) ?_; simp only [go_sem, *]) | ((with_reducible apply And.intro); focus omega) | (refine q7 hK ?_; clear hK; simp only [go_sem, *]) | simp only [q6, z8, go_sem, *])
 (refine ⟨[_], [], [], ⟨rfl, trivial⟩, ?_⟩; simp only [go_sem, *])
theorem zI8 (a : UInt8) (x : Str) : W1 (a :: x) [a] = x := by simp [W1]
theorem zI7 {a c : UInt8} (h : ¬ a = c) (x : Str) : W1 (a :: x) [c] = a :: x := by
 have : ¬ c = a := fun e => h e.symm
 simp [W1, this]
theorem zGL {s : Str} (v : s.all y8 = true) {i : Nat} (h : i < s.length) : (s.getD i 0).toNat < 128 := by
 have hm : s.getD i 0 ∈ s := by simp [List.getD, h]
 have := List.all_eq_true.1 v _ hm
 unfold y8 at this
 simp only [Bool.and_eq_true, decide_eq_true_eq] at this
 omega
theorem zAc (k whole : Str) (hk0 : 0 < k.length) (hk1 : k.length ≤ 1000) (hw : whole.all y8 = true) (hw1 : whole.length ≤ 1000) : zNF prog 111 [sV k, sV whole] [] (bV (u0 k whole)) [] := by
  by_cases q1 : k.length < whole.length
  · have q1i : ¬ (k.length : Int) ≥ (whole.length : Int) := by omega
    by_cases q2 : k.getD 0 0 = whole.getD 0 0
    · have e : u0 k whole = zNP k whole := by
        unfold u0
        rw [decide_eq_true q1, q2]; simp
      rw [e]
      have hP0 : zNP k (whole.drop 0) = zNP k whole := rfl
      generalize zNP k whole = R at *
      have q2n : ((k.getD 0 0).toNat : Int) = (whole.getD 0 0).toNat := by rw [q2]
      have hwa := fun i => zGL (i := i) hw
      clear e q2 hw
      refine q9 func111 rfl (fun E hE => ?_); simp only [go_sem, ntmps111]
      repeat' (first | (refine Qr rfl ?_; try intro _ hK; try simp only [go_sem, *]) | (refine Qi rfl rfl rfl rfl ?_ ?_ <;> (intro hb; (try intro _ hK); have hc := hb; try simp only [go_sem] at hc; simp only [go_sem, *])) | refine Qh rfl ?_ | refine Qd rfl (by kernel_rfl) ?_ | (refine Qc rfl rfl ?_ ?_ <;> (intro hb; have hc := hb; try simp only [go_sem] at hc)) | refine q8 rfl ?_ | (refine Qb ?_ ?_; focus kernel_rfl) | ((with_reducible apply And.intro); focus omega) | (refine q7 hK ?_; clear hK; simp only [go_sem, *]) | simp only [q6, z8, go_sem, *])
      all_goals first | contradiction | omega | skip
      refine c7 rfl (whole.length) (fun i (rest : Str) => 0 < rest.length ∧ rest.length ≤ 1000 ∧ zNP rest (whole.drop i) = R) 32 (fun i rest => [(22, .ptr 0 0), (5, sV rest)]) (fun i rest => [.siter ⟨whole.toArray⟩ i]) [some 0] [] (k) (by exact ⟨hk0, hk1, hP0⟩) ?_; intro i rest hi hP
      clear hP0 q2n
      obtain ⟨hr0, hr1, hP⟩ := hP
      obtain ⟨a, x, rfl⟩ : ∃ a x, rest = a :: x := by
        cases rest with
        | nil => simp at hr0
        | cons a x => exact ⟨a, x, rfl⟩
      by_cases hi2 : i < whole.length
      · have ha := hwa i hi2
        have hd := C3 hi2 ha
        have ee := zBH (n := ((whole.getD i 0).toNat : Int)) (by omega) (by omega)
        rw [Int.toNat_natCast, UInt8.ofNat_toNat] at ee
        have st := zIA (a :: x) [whole.getD i 0] (by omega) (by simp)
        rw [j3 hi2] at hP
        have hP : (if a = whole.getD i default then zNP x (whole.drop (i + 1)) else zNP (a :: x) (whole.drop (i + 1))) = R := hP
        have hdef : whole.getD i default = whole.getD i 0 := rfl
        rw [hdef] at hP
        clear hdef hwa
        generalize whole.getD i 0 = c at *
        generalize he : Utf8.encode (c.toNat : Int) = eb at *
        have st : zNF prog 136 [sV (a :: x), .raw (.string eb)] [] (sV (W1 (a :: x) [c])) [] := by rw [ee]; exact st
        clear ee
        by_cases hac : a = c
        · subst hac
          rw [if_pos rfl] at hP
          rw [zI8] at st
          cases x with
          | nil =>
            have hP : true = R := by rw [← hP]; cases whole.drop (i + 1) <;> rfl
            subst hP
            repeat' (first | (refine Qr rfl ?_; try intro _ hK; try simp only [go_sem, *]) | (refine Qi rfl rfl rfl rfl ?_ ?_ <;> (intro hb; (try intro _ hK); have hc := hb; try simp only [go_sem] at hc; simp only [go_sem, *])) | refine Qh rfl ?_ | refine Qd rfl (by kernel_rfl) ?_ | (refine Qc rfl rfl ?_ ?_ <;> (intro hb; have hc := hb; try simp only [go_sem] at hc)) | refine q8 rfl ?_ | (refine Qb ?_ ?_; focus kernel_rfl) | (refine y5 (st) ?_; simp only [go_sem, *]) | ((with_reducible apply And.intro); focus omega) | (refine q7 hK ?_; clear hK; simp only [go_sem, *]) | simp only [q6, z8, go_sem, *])
            all_goals ((try clear hd he); first | contradiction | skip)
            (refine ⟨[_], [], [], ⟨rfl, trivial⟩, ?_⟩; simp only [go_sem, *])
          | cons b y =>
            have hr1' : (b :: y).length ≤ 1000 := by simp at hr1 ⊢; omega
            clear hr0 hr1
            repeat' (first | (refine Qr rfl ?_; try intro _ hK; try simp only [go_sem, *]) | (refine Qi rfl rfl rfl rfl ?_ ?_ <;> (intro hb; (try intro _ hK); have hc := hb; try simp only [go_sem] at hc; simp only [go_sem, *])) | refine Qh rfl ?_ | refine Qd rfl (by kernel_rfl) ?_ | (refine Qc rfl rfl ?_ ?_ <;> (intro hb; have hc := hb; try simp only [go_sem] at hc)) | refine q8 rfl ?_ | (refine Qb ?_ ?_; focus kernel_rfl) | (refine y5 (st) ?_; simp only [go_sem, *]) | ((with_reducible apply And.intro); focus omega) | (refine q7 hK ?_; clear hK; simp only [go_sem, *]) | simp only [q6, z8, go_sem, *])
            all_goals ((try clear hd he); first | contradiction | skip)
            exact p5 (i' := i + 1) [some 0] [] (b :: y) (by exact ⟨by simp, hr1', hP⟩)
        · rw [if_neg hac] at hP
          rw [zI7 hac] at st
          clear hac
          repeat' (first | (refine Qr rfl ?_; try intro _ hK; try simp only [go_sem, *]) | (refine Qi rfl rfl rfl rfl ?_ ?_ <;> (intro hb; (try intro _ hK); have hc := hb; try simp only [go_sem] at hc; simp only [go_sem, *])) | refine Qh rfl ?_ | refine Qd rfl (by kernel_rfl) ?_ | (refine Qc rfl rfl ?_ ?_ <;> (intro hb; have hc := hb; try simp only [go_sem] at hc)) | refine q8 rfl ?_ | (refine Qb ?_ ?_; focus kernel_rfl) | (refine y5 (st) ?_; simp only [go_sem, *]) | ((with_reducible apply And.intro); focus omega) | (refine q7 hK ?_; clear hK; simp only [go_sem, *]) | simp only [q6, z8, go_sem, *])
          all_goals ((try clear hd he); first | contradiction | skip)
          exact p5 (i' := i + 1) [some 0] [] (a :: x) (by exact ⟨hr0, hr1, hP⟩)
      · rw [c0 (by omega)] at hP
        have hP : false = R := hP
        subst hP
        clear hwa
        repeat' (first | (refine Qr rfl ?_; try intro _ hK; try simp only [go_sem, *]) | (refine Qi rfl rfl rfl rfl ?_ ?_ <;> (intro hb; (try intro _ hK); have hc := hb; try simp only [go_sem] at hc; simp only [go_sem, *])) | refine Qh rfl ?_ | refine Qd rfl (by kernel_rfl) ?_ | (refine Qc rfl rfl ?_ ?_ <;> (intro hb; have hc := hb; try simp only [go_sem] at hc)) | refine q8 rfl ?_ | (refine Qb ?_ ?_; focus kernel_rfl) | ((with_reducible apply And.intro); focus omega) | (refine q7 hK ?_; clear hK; simp only [go_sem, *]) | simp only [q6, z8, go_sem, *])
        all_goals first | contradiction | omega | skip
        (refine ⟨[_], [], [], ⟨rfl, trivial⟩, ?_⟩; simp only [go_sem, *])
    · have e : u0 k whole = false := by
        unfold u0
        rw [show (k.getD 0 0 == whole.getD 0 0) = false by simpa using q2]; simp
      rw [e]
      have q2n : ¬ ((k.getD 0 0).toNat : Int) = (whole.getD 0 0).toNat := fun h => q2 (UInt8.toNat_inj.1 (by omega))
      clear e q2 hw
      refine q9 func111 rfl (fun E hE => ?_); simp only [go_sem, ntmps111]
      repeat' (first | (refine Qr rfl ?_; try intro _ hK; try simp only [go_sem, *]) | (refine Qi rfl rfl rfl rfl ?_ ?_ <;> (intro hb; (try intro _ hK); have hc := hb; try simp only [go_sem] at hc; simp only [go_sem, *])) | refine Qh rfl ?_ | refine Qd rfl (by kernel_rfl) ?_ | (refine Qc rfl rfl ?_ ?_ <;> (intro hb; have hc := hb; try simp only [go_sem] at hc)) | refine q8 rfl ?_ | (refine Qb ?_ ?_; focus kernel_rfl) | ((with_reducible apply And.intro); focus omega) | (refine q7 hK ?_; clear hK; simp only [go_sem, *]) | simp only [q6, z8, go_sem, *])
      all_goals first | contradiction | omega | skip
      (refine ⟨[_], [], [], ⟨rfl, trivial⟩, ?_⟩; simp only [go_sem, *])
  · have e : u0 k whole = false := by
      unfold u0
      rw [decide_eq_false q1]; rfl
    rw [e]
    clear e hw
    have q1i : (k.length : Int) ≥ (whole.length : Int) := by omega
    refine q9 func111 rfl (fun E hE => ?_); simp only [go_sem, ntmps111]
    repeat' (first | (refine Qr rfl ?_; try intro _ hK; try simp only [go_sem, *]) | (refine Qi rfl rfl rfl rfl ?_ ?_ <;> (intro hb; (try intro _ hK); have hc := hb; try simp only [go_sem] at hc; simp only [go_sem, *])) | refine Qh rfl ?_ | refine Qd rfl (by kernel_rfl) ?_ | (refine Qc rfl rfl ?_ ?_ <;> (intro hb; have hc := hb; try simp only [go_sem] at hc)) | refine q8 rfl ?_ | (refine Qb ?_ ?_; focus kernel_rfl) | ((with_reducible apply And.intro); focus omega) | (refine q7 hK ?_; clear hK; simp only [go_sem, *]) | simp only [q6, z8, go_sem, *])
    all_goals first | contradiction | omega | skip
    (refine ⟨[_], [], [], ⟨rfl, trivial⟩, ?_⟩; simp only [go_sem, *])
end Go.Abs

namespace Go.Abs
open Go Go.Proofs Tryz
attribute [local irreducible] y4 Hold y9
def zNa (k own s : Str) : Bool := !(decide (zNG s = own)) && u0 k (zNG s)
theorem zIX (k own s : Str) (hk0 : 0 < k.length) (hk1 : k.length ≤ 1000) (v : ValidN s) : zNF prog 139 [sV s, .ptr 0 0, .ptr 1 0] [.box [sV own], .box [sV k]] (bV (zNa k own s)) [.box [sV own], .box [sV k]] := by
 have so := X8 s v.form (by have := v.len; omega)
 have hkl := K1 v
 unfold x7 at hkl
 simp only [Bool.and_eq_true, decide_eq_true_eq] at hkl
 have ss := zAc k (zNG s) hk0 hk1 hkl.2.2 (by omega)
 unfold zNa
 generalize zNG s = ks at *
 generalize u0 k ks = b at *
 clear hkl v hk0
 by_cases q : ks = own
 ·have e : (!decide (ks = own) && b) = false := by rw [decide_eq_true q]; rfl
  rw [e]
  subst q
  clear e ss
  refine q9 func139 rfl (fun E hE => ?_); simp only [go_sem, ntmps139]
  repeat' (first | (refine Qr rfl ?_; try intro _ hK; try simp only [go_sem, *]) | (refine Qi rfl rfl rfl rfl ?_ ?_ <;> (intro hb; (try intro _ hK); have hc := hb; try simp only [go_sem] at hc; simp only [go_sem, *])) | refine Qh rfl ?_ | refine Qd rfl (by kernel_rfl) ?_ | (refine Qc rfl rfl ?_ ?_ <;> (intro hb; have hc := hb; try simp only [go_sem] at hc)) | refine q8 rfl ?_ | (refine Qb ?_ ?_; focus kernel_rfl) | (refine y5 (so) ?_; simp only [go_sem, *]) | ((with_reducible apply And.intro); focus omega) | (refine q7 hK ?_; clear hK; simp only [go_sem, *]) | simp only [q6, z8, go_sem, *])
  all_goals try contradiction
  refine ⟨[_], [some 0, some 1], [], ⟨rfl, trivial⟩, ?_⟩
  simp only [go_sem, *]
 ·have e : (!decide (ks = own) && b) = b := by rw [decide_eq_false q]; rfl
  rw [e]
  clear e
  refine q9 func139 rfl (fun E hE => ?_); simp only [go_sem, ntmps139]
  repeat' (first | (refine Qr rfl ?_; try intro _ hK; try simp only [go_sem, *]) | (refine Qi rfl rfl rfl rfl ?_ ?_ <;> (intro hb; (try intro _ hK); have hc := hb; try simp only [go_sem] at hc; simp only [go_sem, *])) | refine Qh rfl ?_ | refine Qd rfl (by kernel_rfl) ?_ | (refine Qc rfl rfl ?_ ?_ <;> (intro hb; have hc := hb; try simp only [go_sem] at hc)) | refine q8 rfl ?_ | (refine Qb ?_ ?_; focus kernel_rfl) | ((first | refine y5 (so) ?_ | refine y5 (ss) ?_); simp only [go_sem, *]) | ((with_reducible apply And.intro); focus omega) | (refine q7 hK ?_; clear hK; simp only [go_sem, *]) | simp only [q6, z8, go_sem, *])
  all_goals try contradiction
  refine ⟨[_], [some 0, some 1], [], ⟨rfl, trivial⟩, ?_⟩
  simp only [go_sem, *]
def zNf (p : Str → Bool) : List Str → Nat → Int
 | [], _ => -1
 | x :: r, i => if p x = true then (i : Int) else zNf p r (i + 1)
theorem zBm (p : Str → Bool) : ∀ (l : List Str) (i : Nat), decide (zNf p l i ≥ 0) = l.any p
 | [], i => by simp [zNf]
 | x :: r, i => by
  rw [zNf, List.any_cons]
  cases hp : p x with
  | true => simp
  | false => rw [if_neg (by decide), zBm p r (i + 1), Bool.false_or]
theorem zH3 (k own : Str) (l : List Str) (hk0 : 0 < k.length) (hk1 : k.length ≤ 1000) (hv : ∀ s, s ∈ l → ValidN s) (hl : l.length ≤ 1000) :
  zNF prog 162 [y7 l, .fn 139 [.ptr 0 0, .ptr 1 0]] [.box [sV own], .box [sV k]] (iV (zNf (zNa k own) l 0)) [.box [sV own], .box [sV k]] := by
 have hca : t7 prog 139 = true := by kernel_rfl
 have h0 : zNf (zNa k own) (l.drop 0) 0 = zNf (zNa k own) l 0 := rfl
 generalize zNf (zNa k own) l 0 = T at *
 have sm := fun s v => zIX k own s hk0 hk1 v
 refine q9 func162 rfl (fun E hE => ?_); simp only [go_sem, ntmps162]
 repeat' (first | (refine Qr rfl ?_; try intro _ hK; try simp only [go_sem, *]) | refine Qh rfl ?_ | (refine Qc rfl rfl ?_ ?_ <;> (intro hb; have hc := hb; try simp only [go_sem] at hc)) | refine q8 rfl ?_ | ((with_reducible apply And.intro); focus omega) | (refine q7 hK ?_; clear hK; simp only [go_sem, *]) | simp only [q6, z8, go_sem, *])
 refine n0 rfl (l.length) (fun i => zNf (zNa k own) (l.drop i) i = T) 19 (fun i => [(8, iV i), (7, iV l.length), (0, y7 l), (1, .fn 139 [.ptr 0 0, .ptr 1 0])]) (fun i => [.box [sV own], .box [sV k]]) [some 0, some 1] [] (by exact h0) ?_; intro i hi hP
 clear h0
 by_cases hi2 : i < l.length
 ·have sc := sm _ (hv _ (o7 hi2))
  rw [j3 hi2, zNf] at hP
  generalize hm : zNa k own (l.getD i default) = b at *
  clear hm
  cases b
  ·have hP : zNf (zNa k own) (l.drop (i + 1)) (i + 1) = T := hP
   clear sm
   repeat' (first | (refine Qr rfl ?_; try intro _ hK; try simp only [go_sem, *]) | refine Qh rfl ?_ | (refine Qc rfl rfl ?_ ?_ <;> (intro hb; have hc := hb; try simp only [go_sem] at hc)) | refine q8 rfl ?_ | (refine v8 [0, 1] (sc) ?_; simp only [go_sem, *]) | ((with_reducible apply And.intro); focus omega) | (refine q7 hK ?_; clear hK; simp only [go_sem, *]) | simp only [q6, z8, go_sem, *])
   all_goals first | contradiction | omega | skip
   exact d7 (i' := i + 1) [some 0, some 1] [] (by exact hP)
  ·have hP : (i : Int) = T := hP
   subst hP
   clear sm
   repeat' (first | (refine Qr rfl ?_; try intro _ hK; try simp only [go_sem, *]) | refine Qh rfl ?_ | (refine Qc rfl rfl ?_ ?_ <;> (intro hb; have hc := hb; try simp only [go_sem] at hc)) | refine q8 rfl ?_ | (refine v8 [0, 1] (sc) ?_; simp only [go_sem, *]) | ((with_reducible apply And.intro); focus omega) | (refine q7 hK ?_; clear hK; simp only [go_sem, *]) | simp only [q6, z8, go_sem, *])
   all_goals first | contradiction | omega | skip
   refine ⟨[_], [some 0, some 1], [], ⟨rfl, trivial⟩, ?_⟩
   simp only [go_sem, *]
 ·rw [c0 (by omega)] at hP
  have hP : (-1 : Int) = T := hP
  subst hP
  clear sm
  repeat' (first | (refine Qr rfl ?_; try intro _ hK; try simp only [go_sem, *]) | refine Qh rfl ?_ | (refine Qc rfl rfl ?_ ?_ <;> (intro hb; have hc := hb; try simp only [go_sem] at hc)) | refine q8 rfl ?_ | ((with_reducible apply And.intro); focus omega) | (refine q7 hK ?_; clear hK; simp only [go_sem, *]) | simp only [q6, z8, go_sem, *])
  all_goals first | contradiction | omega | skip
  refine ⟨[_], [some 0, some 1], [], ⟨rfl, trivial⟩, ?_⟩
  simp only [go_sem, *]
theorem zHs (k own : Str) (l : List Str) (hk0 : 0 < k.length) (hk1 : k.length ≤ 1000) (hv : ∀ s, s ∈ l → ValidN s) (hl : l.length ≤ 1000) :
  zNF prog 138 [y7 l, .fn 139 [.ptr 0 0, .ptr 1 0]] [.box [sV own], .box [sV k]] (bV (l.any (zNa k own))) [.box [sV own], .box [sV k]] := by
 have si := zH3 k own l hk0 hk1 hv hl
 rw [← zBm (zNa k own) l 0]
 generalize zNf (zNa k own) l 0 = n at *
 clear hv
 refine q9 func138 rfl (fun E hE => ?_); simp only [go_sem, ntmps138]
 repeat' (first | (refine Qr rfl ?_; try intro _ hK; try simp only [go_sem, *]) | refine Qh rfl ?_ | (refine Qc rfl rfl ?_ ?_ <;> (intro hb; have hc := hb; try simp only [go_sem] at hc)) | refine q8 rfl ?_ | (refine v8 [0, 1] (si) ?_; simp only [go_sem, *]) | ((with_reducible apply And.intro); focus omega) | (refine q7 hK ?_; clear hK; simp only [go_sem, *]) | simp only [q6, z8, go_sem, *])
 refine ⟨[_], [some 0, some 1], [], ⟨rfl, trivial⟩, ?_⟩
 simp only [go_sem, *]
theorem zIY (k own : Str) (l : List Str) (hk0 : 0 < k.length) (hk1 : k.length ≤ 1000) (hv : ∀ s, s ∈ l → ValidN s) (hl : l.length ≤ 1000) :
  zNF prog 114 [sV k, y7 l, sV own] [] (bV (p8 k l own)) [] := by
 have sc := zHs k own l hk0 hk1 hv hl
 have e : p8 k l own = l.any (zNa k own) := rfl
 rw [e]
 clear e hv
 generalize l.any (zNa k own) = b at *
 refine q9 func114 rfl (fun E hE => ?_); simp only [go_sem, ntmps114]
 repeat' (first | (refine Qr rfl ?_; try intro _ hK; try simp only [go_sem, *]) | refine Qh rfl ?_ | (refine Qc rfl rfl ?_ ?_ <;> (intro hb; have hc := hb; try simp only [go_sem] at hc)) | refine q8 rfl ?_ | (refine v8 [1, 0] (sc) ?_; simp only [go_sem, *]) | ((with_reducible apply And.intro); focus omega) | (refine q7 hK ?_; clear hK; simp only [go_sem, *]) | simp only [q6, z8, go_sem, *])
 (refine ⟨[_], [], [], ⟨rfl, trivial⟩, ?_⟩; simp only [go_sem, *])
end Go.Abs

namespace Go.Abs
open Go Go.Proofs Tryz
attribute [local irreducible] y4 Hold y9
abbrev zBD (now : Str) (i : Nat) : List AV := [sV now, iV i, .ptr 0 0, .ptr 1 0, .ptr 2 0]
abbrev V0 (k : Str) (m : List Str) : List AObj := [.box [sV k], .box [.mp 3], .box [.fn 140 [.ptr 0 0, .ptr 1 0, .ptr 2 0]], .mapo (m.map zNO) (m.map fun _ => bV true)]
def SmallL (m : List Str) : Prop := ∀ x, x ∈ m → x.length ≤ 1000
theorem SmallL.met {k now : Str} {m : List Str} (h : SmallL m) (hn : now.length ≤ 1000) : SmallL (zNZ k m now) := fun x hx => by
 rcases mem_metC.1 hx with hx | ⟨rfl, _⟩
 ·exact h x hx
 ·exact hn
theorem SmallL.go {k now : Str} {m : List Str} {n i : Nat} (h : SmallL m) (hk : k.length ≤ 1000) (hi : k.length - i ≤ n) : SmallL (goC k n m now i) := fun x hx => by
 rcases (zAF hi).1 hx with hx | ⟨t, _, _, hl⟩
 ·exact h x hx
 ·omega
theorem zCz (k : Str) (hk : k.length ≤ 1000) : ∀ (n : Nat) (m : List Str) (now : Str) (i : Nat), k.length - i ≤ n → now.length ≤ i → i ≤ k.length → SmallL m →
  zNF prog 140 (zBD now i) (V0 k m) (.tup []) (V0 k (goC k n m now i))
 | 0, m, now, i, hn, h1, h2, hs => by
  have hi : i = k.length := by omega
  subst hi
  have e : goC k 0 m now k.length = zNZ k m now := rfl
  rw [e]
  clear e
  unfold zNZ
  by_cases q : now.length < k.length
  ·rw [if_pos q]
   have qi : (now.length : Int) < (k.length : Int) := by omega
   refine q9 func140 rfl (fun E hE => ?_); simp only [go_sem, ntmps140]
   repeat' (first | (refine Qr rfl ?_; try intro _ hK; try simp only [go_sem, *]) | refine Qh rfl ?_ | refine Qd rfl (by kernel_rfl) ?_ | (refine Qc rfl rfl ?_ ?_ <;> (intro hb; have hc := hb; try simp only [go_sem] at hc)) | refine q8 rfl ?_ | (refine Qb ?_ ?_; focus kernel_rfl) | ((with_reducible apply And.intro); focus omega) | (refine q7 hK ?_; clear hK; simp only [go_sem, *]) | simp only [q6, z8, go_sem, *])
   all_goals first | contradiction | omega | skip
   refine zAj hs (by omega) (by simp only [go_sem]) ?_
   repeat' (first | (refine Qr rfl ?_; try intro _ hK; try simp only [go_sem, *]) | refine Qh rfl ?_ | refine Qd rfl (by kernel_rfl) ?_ | (refine Qc rfl rfl ?_ ?_ <;> (intro hb; have hc := hb; try simp only [go_sem] at hc)) | refine q8 rfl ?_ | (refine Qb ?_ ?_; focus kernel_rfl) | ((with_reducible apply And.intro); focus omega) | (refine q7 hK ?_; clear hK; simp only [go_sem, *]) | simp only [q6, z8, go_sem, *])
   refine n0 rfl (1) (fun t => NoQ t) 33 (fun t => [(7, iV k.length), (0, sV now), (2, .ptr 0 0), (3, .ptr 1 0), (4, .ptr 2 0)]) (fun t => V0 k (zNd m now)) [some 0, some 1, some 2, some 3] [] (by trivial) ?_; intro t ht hP
   repeat' (first | (refine Qr rfl ?_; try intro _ hK; try simp only [go_sem, *]) | refine Qh rfl ?_ | refine Qd rfl (by kernel_rfl) ?_ | (refine Qc rfl rfl ?_ ?_ <;> (intro hb; have hc := hb; try simp only [go_sem] at hc)) | refine q8 rfl ?_ | (refine Qb ?_ ?_; focus kernel_rfl) | ((with_reducible apply And.intro); focus omega) | (refine q7 hK ?_; clear hK; simp only [go_sem, *]) | simp only [q6, z8, go_sem, *])
   all_goals first | contradiction | omega | skip
   refine ⟨[], [some 0, some 1, some 2, some 3], [], trivial, ?_⟩
   simp only [go_sem, f5, *]
  ·rw [if_neg q]
   have qi : ¬ (now.length : Int) < (k.length : Int) := by omega
   refine q9 func140 rfl (fun E hE => ?_); simp only [go_sem, ntmps140]
   repeat' (first | (refine Qr rfl ?_; try intro _ hK; try simp only [go_sem, *]) | refine Qh rfl ?_ | refine Qd rfl (by kernel_rfl) ?_ | (refine Qc rfl rfl ?_ ?_ <;> (intro hb; have hc := hb; try simp only [go_sem] at hc)) | refine q8 rfl ?_ | (refine Qb ?_ ?_; focus kernel_rfl) | ((with_reducible apply And.intro); focus omega) | (refine q7 hK ?_; clear hK; simp only [go_sem, *]) | simp only [q6, z8, go_sem, *])
   all_goals first | contradiction | omega | skip
   refine n0 rfl (1) (fun t => NoQ t) 33 (fun t => [(7, iV k.length), (0, sV now), (2, .ptr 0 0), (3, .ptr 1 0), (4, .ptr 2 0)]) (fun t => V0 k m) [some 0, some 1, some 2, some 3] [] (by trivial) ?_; intro t ht hP
   repeat' (first | (refine Qr rfl ?_; try intro _ hK; try simp only [go_sem, *]) | refine Qh rfl ?_ | refine Qd rfl (by kernel_rfl) ?_ | (refine Qc rfl rfl ?_ ?_ <;> (intro hb; have hc := hb; try simp only [go_sem] at hc)) | refine q8 rfl ?_ | (refine Qb ?_ ?_; focus kernel_rfl) | ((with_reducible apply And.intro); focus omega) | (refine q7 hK ?_; clear hK; simp only [go_sem, *]) | simp only [q6, z8, go_sem, *])
   all_goals first | contradiction | omega | skip
   refine ⟨[], [some 0, some 1, some 2, some 3], [], trivial, ?_⟩
   simp only [go_sem, f5, *]
 | n + 1, m, now, i, hn, h1, h2, hs => by
  have hca : t7 prog 140 = true := by kernel_rfl
  have IH := zCz k hk n
  rw [B7]
  have hs2 : SmallL (zNZ k m now) := hs.met (by omega)
  obtain ⟨T, hT⟩ : ∃ T, Q0 k n (zNZ k m now) now (i + 0) = T := ⟨_, rfl⟩
  have hT0 : Q0 k n (zNZ k m now) now i = T := hT
  rw [hT0]
  clear hT0
  unfold zNZ at hT hs2
  by_cases q : now.length < k.length
  ·rw [if_pos q] at hT hs2
   have qi : (now.length : Int) < (k.length : Int) := by omega
   refine q9 func140 rfl (fun E hE => ?_); simp only [go_sem, ntmps140]
   repeat' (first | (refine Qr rfl ?_; try intro _ hK; try simp only [go_sem, *]) | refine Qh rfl ?_ | refine Qd rfl (by kernel_rfl) ?_ | (refine Qc rfl rfl ?_ ?_ <;> (intro hb; have hc := hb; try simp only [go_sem] at hc)) | refine q8 rfl ?_ | (refine Qb ?_ ?_; focus kernel_rfl) | ((with_reducible apply And.intro); focus omega) | (refine q7 hK ?_; clear hK; simp only [go_sem, *]) | simp only [q6, z8, go_sem, *])
   all_goals first | contradiction | omega | skip
   refine zAj hs (by omega) (by simp only [go_sem]) ?_
   repeat' (first | (refine Qr rfl ?_; try intro _ hK; try simp only [go_sem, *]) | refine Qh rfl ?_ | refine Qd rfl (by kernel_rfl) ?_ | (refine Qc rfl rfl ?_ ?_ <;> (intro hb; have hc := hb; try simp only [go_sem] at hc)) | refine q8 rfl ?_ | (refine Qb ?_ ?_; focus kernel_rfl) | ((with_reducible apply And.intro); focus omega) | (refine q7 hK ?_; clear hK; simp only [go_sem, *]) | simp only [q6, z8, go_sem, *])
   refine c7 rfl (k.length - i) (fun t (z : List Str) => Q0 k n z now (i + t) = T ∧ SmallL z) 33 (fun t z => [(7, iV ((i + t : Nat) : Int)), (0, sV now), (2, .ptr 0 0), (3, .ptr 1 0), (4, .ptr 2 0)]) (fun t z => V0 k z) [some 0, some 1, some 2, some 3] [] (zNd m now) (by exact ⟨hT, hs2⟩) ?_; intro t z ht hP
   clear hT hs2 hs
   obtain ⟨hP, hz⟩ := hP
   generalize hjj : i + t = j at *
   by_cases hj : j < k.length
   ·rw [B6 hj] at hP
    have sI := IH z (now ++ [k.getD j 0]) (j + 1) (by omega) (by simp; omega) (by omega) hz
    have hz2 : SmallL (goC k n z (now ++ [k.getD j 0]) (j + 1)) := hz.go hk (by omega)
    have hdt := C4 hj
    have hji : (j : Int) < (k.length : Int) := by omega
    have hwj : IntKind.i64.wrap ((j : Int) + 1) = ((j + 1 : Nat) : Int) := t6 (by omega)
    have hnx : i + (t + 1) = j + 1 := by omega
    generalize goC k n z (now ++ [k.getD j 0]) (j + 1) = z2 at *
    clear IH hz
    repeat' (first | (refine Qr rfl ?_; try intro _ hK; try simp only [go_sem, *]) | refine Qh rfl ?_ | refine Qd rfl (by kernel_rfl) ?_ | (refine Qc rfl rfl ?_ ?_ <;> (intro hb; have hc := hb; try simp only [go_sem] at hc)) | refine q8 rfl ?_ | (refine Qb ?_ ?_; focus kernel_rfl) | ((with_reducible apply And.intro); focus omega) | (refine q7 hK ?_; clear hK; simp only [go_sem, *]) | simp only [q6, z8, go_sem, *])
    refine v8 [0, 1, 2, 3] sI ?_
    simp only [go_sem, *]
    repeat' (first | (refine Qr rfl ?_; try intro _ hK; try simp only [go_sem, *]) | refine Qh rfl ?_ | refine Qd rfl (by kernel_rfl) ?_ | (refine Qc rfl rfl ?_ ?_ <;> (intro hb; have hc := hb; try simp only [go_sem] at hc)) | refine q8 rfl ?_ | (refine Qb ?_ ?_; focus kernel_rfl) | ((with_reducible apply And.intro); focus omega) | (refine q7 hK ?_; clear hK; simp only [go_sem, *]) | simp only [q6, z8, go_sem, *])
    all_goals first | contradiction | omega | skip
    exact p5 (i' := t + 1) [some 0, some 1, some 2, some 3] [] (z2) (by rw [hnx]; exact ⟨hP, hz2⟩)
   ·rw [G0 (by omega)] at hP
    subst hP
    have hji : ¬ (j : Int) < (k.length : Int) := by omega
    clear IH hz
    repeat' (first | (refine Qr rfl ?_; try intro _ hK; try simp only [go_sem, *]) | refine Qh rfl ?_ | refine Qd rfl (by kernel_rfl) ?_ | (refine Qc rfl rfl ?_ ?_ <;> (intro hb; have hc := hb; try simp only [go_sem] at hc)) | refine q8 rfl ?_ | (refine Qb ?_ ?_; focus kernel_rfl) | ((with_reducible apply And.intro); focus omega) | (refine q7 hK ?_; clear hK; simp only [go_sem, *]) | simp only [q6, z8, go_sem, *])
    all_goals first | contradiction | omega | skip
    refine ⟨[], [some 0, some 1, some 2, some 3], [], trivial, ?_⟩
    simp only [go_sem, f5, *]
  ·rw [if_neg q] at hT hs2
   have qi : ¬ (now.length : Int) < (k.length : Int) := by omega
   have hik : i = k.length := by omega
   rw [G0 (by omega)] at hT
   subst hT
   subst hik
   clear IH
   refine q9 func140 rfl (fun E hE => ?_); simp only [go_sem, ntmps140]
   repeat' (first | (refine Qr rfl ?_; try intro _ hK; try simp only [go_sem, *]) | refine Qh rfl ?_ | refine Qd rfl (by kernel_rfl) ?_ | (refine Qc rfl rfl ?_ ?_ <;> (intro hb; have hc := hb; try simp only [go_sem] at hc)) | refine q8 rfl ?_ | (refine Qb ?_ ?_; focus kernel_rfl) | ((with_reducible apply And.intro); focus omega) | (refine q7 hK ?_; clear hK; simp only [go_sem, *]) | simp only [q6, z8, go_sem, *])
   all_goals first | contradiction | omega | skip
   refine n0 rfl (1) (fun t => NoQ t) 33 (fun t => [(7, iV k.length), (0, sV now), (2, .ptr 0 0), (3, .ptr 1 0), (4, .ptr 2 0)]) (fun t => V0 k m) [some 0, some 1, some 2, some 3] [] (by trivial) ?_; intro t ht hP
   repeat' (first | (refine Qr rfl ?_; try intro _ hK; try simp only [go_sem, *]) | refine Qh rfl ?_ | refine Qd rfl (by kernel_rfl) ?_ | (refine Qc rfl rfl ?_ ?_ <;> (intro hb; have hc := hb; try simp only [go_sem] at hc)) | refine q8 rfl ?_ | (refine Qb ?_ ?_; focus kernel_rfl) | ((with_reducible apply And.intro); focus omega) | (refine q7 hK ?_; clear hK; simp only [go_sem, *]) | simp only [q6, z8, go_sem, *])
   all_goals first | contradiction | omega | skip
   refine ⟨[], [some 0, some 1, some 2, some 3], [], trivial, ?_⟩
   simp only [go_sem, f5, *]
end Go.Abs

namespace Go.Abs
open Go Go.Proofs Tryz
attribute [local irreducible] y4 Hold y9
def Bc : Nat → Nat
 | 0 => 1
 | n + 1 => 1 + (n + 1) * Bc n
theorem zDU : ∀ n, n < 13 → Bc n ≤ 2000000000 := by decide
theorem zCN (k : Str) (m : List Str) (now : Str) : (zNZ k m now).length ≤ m.length + 1 := by
 unfold zNZ zNd
 split
 ·split
  ·omega
  ·simp
 ·omega
theorem zBd (k : Str) : ∀ (n : Nat) (m : List Str) (now : Str) (i : Nat), k.length - i ≤ n → (goC k n m now i).length ≤ m.length + Bc n
 | 0, m, now, i, _ => zCN k m now
 | n + 1, m, now, i, h => by
  have key : ∀ (c : Nat) (i : Nat) (m : List Str), k.length - i = c → c ≤ n + 1 → (Q0 k n m now i).length ≤ m.length + c * Bc n := by
   intro c
   induction c with
   | zero => intro i m h1 _; rw [G0 (by omega)]; omega
   | succ c ih =>
    intro i m h1 h2
    rw [B6 (by omega)]
    have a := ih (i + 1) (goC k n m (now ++ [k.getD i 0]) (i + 1)) (by omega) (by omega)
    have b := zBd k n m (now ++ [k.getD i 0]) (i + 1) (by omega)
    have e : (c + 1) * Bc n = c * Bc n + Bc n := Nat.succ_mul _ _
    omega
  rw [B7]
  have a := key (k.length - i) i (zNZ k m now) rfl h
  have b := zCN k m now
  have d : (k.length - i) * Bc n ≤ (n + 1) * Bc n := Nat.mul_le_mul_right _ h
  have e : Bc (n + 1) = 1 + (n + 1) * Bc n := rfl
  omega
theorem zBF {k : Str} (hk : k.length ≤ 12) (hk0 : 0 < k.length) : (V1 k).length ≤ 2000000000 := by
 have a := zBd k k.length [] (k.take 1) 1 (by omega)
 have b := zDU k.length (by omega)
 have e : V1 k = goC k k.length [] (k.take 1) 1 := rfl
 rw [e]; simp only [List.length_nil] at a; omega
theorem zAB {α β : Type} (f : α → β) : ∀ (l : List α) (i : Nat), (l.eraseIdx i).map f = (l.map f).eraseIdx i
 | [], _ => rfl
 | _ :: _, 0 => rfl
 | x :: r, i + 1 => by simp [zAB f r i]
theorem zBK {α : Type} : ∀ (l : List α) (i : Nat) (h : i < l.length), l.Perm (l[i] :: l.eraseIdx i)
 | x :: r, 0, _ => .refl _
 | x :: r, i + 1, h => by
  have := zBK r i (by simpa using h)
  exact (this.cons x).trans (List.Perm.swap _ _ _)
theorem zIJ (k : Str) (hk0 : 0 < k.length) (hk : k.length ≤ 12) :
  R2 (T := {L : List Str // (∀ s, s ∈ L ↔ Z6 k s) ∧ L.length ≤ 2000000000}) prog 115 [sV k] [] (fun L => .own 0 1 0 L.1.length) (fun L => [.row 1 (L.1.map sV)]) := by
 have hca : t7 prog 140 = true := by kernel_rfl
 have sc : zNF prog 140 (zBD (k.take 1) 1) (V0 k []) (.tup []) (V0 k (V1 k)) := zCz k (by omega) k.length [] (k.take 1) 1 (by omega) (by simp; omega) (by omega) (fun x hx => by cases hx)
 have hmem := fun x => zCM (k := k) (x := x)
 have hsm : SmallL (V1 k) := SmallL.go (fun x hx => by cases hx) (by omega) (by omega)
 have hML := zBF hk hk0
 have hmt : (zNr prog 155).isSome = true := by kernel_rfl
 generalize V1 k = M at *
 refine zIp func115 rfl (fun E hE => ?_); simp only [go_sem, ntmps115]
 repeat' (first | (refine Qr rfl ?_; try intro _ hK; try simp only [go_sem, *]) | (refine Qi rfl rfl rfl rfl ?_ ?_ <;> (intro hb; (try intro _ hK); have hc := hb; try simp only [go_sem] at hc; simp only [go_sem, *])) | refine Qh rfl ?_ | refine Qd rfl (by kernel_rfl) ?_ | (refine Qc rfl rfl ?_ ?_ <;> (intro hb; have hc := hb; try simp only [go_sem] at hc)) | refine q8 rfl ?_ | (refine Qb ?_ ?_; focus kernel_rfl) | ((with_reducible apply And.intro); focus omega) | (refine q7 hK ?_; clear hK; simp only [go_sem, *]) | simp only [q6, z8, go_sem, *])
 refine v8 [0, 2, 3, 1] sc ?_
 simp only [go_sem, *]
 refine q7 hK ?_
 clear hK
 simp only [go_sem, *]
 repeat' (first | (refine Qr (ops := _ :: _) rfl ?_; try intro _ hK; try simp only [go_sem, *]) | (refine Qi rfl rfl rfl rfl ?_ ?_ <;> (intro hb; (try intro _ hK); have hc := hb; try simp only [go_sem] at hc; simp only [go_sem, *])) | (refine Qb ?_ ?_; focus kernel_rfl) | ((with_reducible apply And.intro); focus omega) | (refine q7 hK ?_; clear hK; simp only [go_sem, *]) | simp only [q6, z8, go_sem, *])
 refine r9 ?_
 refine Qb ?_ ?_
 focus kernel_rfl
 try simp only [q6, z8, go_sem, *]
 refine T5 (N := 24) (env := [(3, .ptr 0 0)]) (As := [.box [.fmap (M.map zNO) (M.map fun _ => bV true)]]) [some 2] [1] (by (simp only [Weak, go_sem, List.map_append, List.map_set, *] <;> (try simp (disch := omega) only [t6]) <;> (try simp) <;> (try omega))) ?_
 repeat' (first | (refine Qr rfl ?_; try intro _ hK; try simp only [go_sem, *]) | (refine Qi rfl rfl rfl rfl ?_ ?_ <;> (intro hb; (try intro _ hK); have hc := hb; try simp only [go_sem] at hc; simp only [go_sem, *])) | refine Qh rfl ?_ | refine Qd rfl (by kernel_rfl) ?_ | (refine Qc rfl rfl ?_ ?_ <;> (intro hb; have hc := hb; try simp only [go_sem] at hc)) | refine q8 rfl ?_ | (refine Qb ?_ ?_; focus kernel_rfl) | ((with_reducible apply And.intro); focus omega) | (refine q7 hK ?_; clear hK; simp only [go_sem, *]) | simp only [q6, z8, go_sem, *])
 clear sc hsm
 refine O0 rfl (M.length) (fun i (cur : Option (Value × AV)) (S : List Str × List Str) => S.1.length + i = M.length ∧ S.2.length = i ∧ ∀ x, (x ∈ S.2 ∨ x ∈ S.1) ↔ x ∈ M) 24 (fun i cur S => [(14, .ptr 0 0), (5, .own 1 1 0 i)]) (fun i cur S => [.iter cur (S.1.map zNO) (S.1.map fun _ => bV true), .row 1 (S.2.map sV)]) [some 1, none] [] (none) ((M, [])) (by exact ⟨by simp, rfl, fun x => by simp⟩) ?_; intro i cur S hi hP
 obtain ⟨rem, acc⟩ := S
 simp only at hP ⊢
 refine E1 rfl ?_
 refine zHU (o := 0) rfl rfl rfl rfl rfl rfl rfl cur (rem.map zNO) (rem.map fun _ => bV true) (by simp only [go_sem]) (by simp only [go_sem]) (show (15 : Nat) < 24 by decide) (show (16 : Nat) < 24 by decide) (fun hk0 _ => ?_) (fun r hr1 hr2 => ?_)
 ·obtain rfl : rem = [] := by simpa using hk0
  obtain ⟨h1, h2, h3⟩ := hP
  have hL : ∀ s, s ∈ acc ↔ Z6 k s := fun s => by rw [← hmem, ← h3]; simp
  have hLl : acc.length ≤ 2000000000 := by simp only [List.length_nil] at h1; omega
  clear hmem h3
  simp only [go_sem]
  repeat' (first | (refine Qr rfl ?_; try intro _ hK; try simp only [go_sem, *]) | (refine Qi rfl rfl rfl rfl ?_ ?_ <;> (intro hb; (try intro _ hK); have hc := hb; try simp only [go_sem] at hc; simp only [go_sem, *])) | refine Qh rfl ?_ | refine Qd rfl (by kernel_rfl) ?_ | (refine Qc rfl rfl ?_ ?_ <;> (intro hb; have hc := hb; try simp only [go_sem] at hc)) | refine q8 rfl ?_ | (refine Qb ?_ ?_; focus kernel_rfl) | ((with_reducible apply And.intro); focus omega) | (refine q7 hK ?_; clear hK; simp only [go_sem, *]) | simp only [q6, z8, go_sem, *])
  all_goals try contradiction
  refine ⟨⟨acc, hL, hLl⟩, [_], [some 1], [], ⟨rfl, trivial⟩, ?_⟩
  simp only [go_sem, *]
 ·have hr : r < rem.length := by simpa using hr1
  have e1 : (rem.map zNO)[r] = zNO rem[r] := by simp
  have e2 : (rem.map fun _ => bV true)[r] = bV true := by simp
  have e3 : (rem.map zNO).eraseIdx r = (rem.eraseIdx r).map zNO := (zAB zNO rem r).symm
  have e4 : (rem.map fun _ => bV true).eraseIdx r = (rem.eraseIdx r).map fun _ => bV true := (zAB _ rem r).symm
  rw [e1, e2, e3, e4]
  have hq : (rem[r] :: rem.eraseIdx r).Perm rem := (zBK rem r hr).symm
  have hel : (rem.eraseIdx r).length = rem.length - 1 := List.length_eraseIdx_of_lt hr
  clear e1 e2 e3 e4
  generalize rem.eraseIdx r = rem' at *
  generalize rem[r] = x at *
  obtain ⟨h1, h2, h3⟩ := hP
  have hP2 : rem'.length + (i + 1) = M.length ∧ (acc ++ [x]).length = i + 1 ∧ ∀ z, (z ∈ acc ++ [x] ∨ z ∈ rem') ↔ z ∈ M := ⟨by omega, by simp [h2], fun z => by
   rw [← h3, ← hq.mem_iff]; simp [or_assoc]⟩
  have hil : i < M.length := by omega
  clear hmem h1 h3 hq hel hr hr1 hr2
  simp only [go_sem]
  repeat' (first | (refine Qr rfl ?_; try intro _ hK; try simp only [go_sem, *]) | (refine Qi rfl rfl rfl rfl ?_ ?_ <;> (intro hb; (try intro _ hK); have hc := hb; try simp only [go_sem] at hc; simp only [go_sem, *])) | refine Qh rfl ?_ | refine Qd rfl (by kernel_rfl) ?_ | (refine Qc rfl rfl ?_ ?_ <;> (intro hb; have hc := hb; try simp only [go_sem] at hc)) | refine q8 rfl ?_ | (refine Qb ?_ ?_; focus kernel_rfl) | ((with_reducible apply And.intro); focus omega) | (refine q7 hK ?_; clear hK; simp only [go_sem, *]) | simp only [q6, z8, go_sem, *])
  all_goals try contradiction
  exact i7 (i' := i + 1) [some 0, some 3] [] ((some (zNO x, bV true))) ((rem', acc ++ [x])) (by exact hP2)
end Go.Abs

namespace Go.Abs
open Go Go.Proofs Tryz
attribute [local irreducible] y4 Hold y9
def zOd : Bool → Value
 | true => .func (.func 80) #[] #[]
 | false => .func (.func 83) #[] #[]
abbrev zNn (up : Bool) : AV := .raw (zOd up)
def zOJ (up : Bool) (a b : Nat) : Int := if up = true then (a : Int) - b else (b : Int) - a
theorem zEa (up : Bool) (a b : Str) : zNK up a b = orI (zOJ up a.length b.length) (zNI a b) := rfl
theorem zIa (a b : Nat) (ha : a ≤ 1000) (hb1 : b ≤ 1000) : zNF prog 80 [iV a, iV b] [] (iV ((a : Int) - b)) [] := by
 have hw : IntKind.i64.wrap ((a : Int) - b) = (a : Int) - b := wrap_i64 (by omega) (by omega)
 refine q9 func80 rfl (fun E hE => ?_); simp only [go_sem, ntmps80]
 repeat' (first | (refine Qr rfl ?_; try intro _ hK; try simp only [go_sem, *]) | refine Qh rfl ?_ | (refine Qc rfl rfl ?_ ?_ <;> (intro hb; have hc := hb; try simp only [go_sem] at hc)) | refine q8 rfl ?_ | ((with_reducible apply And.intro); focus omega) | (refine q7 hK ?_; clear hK; simp only [go_sem, *]) | simp only [q6, z8, go_sem, *])
 (refine ⟨[_], [], [], ⟨rfl, trivial⟩, ?_⟩; simp only [go_sem, *])
theorem zIZ (a b : Nat) (ha : a ≤ 1000) (hb1 : b ≤ 1000) : zNF prog 83 [iV a, iV b] [] (iV ((b : Int) - a)) [] := by
 have hw : IntKind.i64.wrap ((b : Int) - a) = (b : Int) - a := wrap_i64 (by omega) (by omega)
 refine q9 func83 rfl (fun E hE => ?_); simp only [go_sem, ntmps83]
 repeat' (first | (refine Qr rfl ?_; try intro _ hK; try simp only [go_sem, *]) | refine Qh rfl ?_ | (refine Qc rfl rfl ?_ ?_ <;> (intro hb; have hc := hb; try simp only [go_sem] at hc)) | refine q8 rfl ?_ | ((with_reducible apply And.intro); focus omega) | (refine q7 hK ?_; clear hK; simp only [go_sem, *]) | simp only [q6, z8, go_sem, *])
 (refine ⟨[_], [], [], ⟨rfl, trivial⟩, ?_⟩; simp only [go_sem, *])
theorem zII (up : Bool) (a b : Str) (ha : a.length ≤ 1000) (hb1 : b.length ≤ 1000) : zNF prog 118 [sV a, sV b, .ptr 0 0] [.box [zNn up]] (iV (zNK up a b)) [.box [zNn up]] := by
 have s1 := zIa a.length b.length ha hb1
 have s2 := zIZ a.length b.length ha hb1
 have s3 := zCr a b
 have so := zCv [zOJ up a.length b.length, zNI a b] (by simp)
 rw [zCV] at so
 rw [zEa]
 have hca : t7 prog 80 = true := by kernel_rfl
 have hcb : t7 prog 83 = true := by kernel_rfl
 cases up
 ·have e : zOJ false a.length b.length = (b.length : Int) - a.length := rfl
  have ex : zNn false = .raw (.func (.func 83) #[] #[]) := rfl
  rw [e] at so ⊢
  rw [ex]
  generalize (b.length : Int) - a.length = n at *
  generalize zNI a b = c at *
  generalize orI n c = r at *
  clear e ex s1
  refine q9 func118 rfl (fun E hE => ?_); simp only [go_sem, ntmps118]
  repeat' (first | (refine Qr rfl ?_; try intro _ hK; try simp only [go_sem, *]) | refine Qh rfl ?_ | (refine Qc rfl rfl ?_ ?_ <;> (intro hb; have hc := hb; try simp only [go_sem] at hc)) | refine q8 rfl ?_ | (refine x5 (s2) ?_ ?_; (focus (simp only [go_sem, *]; done)); simp only [go_sem, *]) | (refine x5 (s3) ?_ ?_; (focus (simp only [go_sem, *]; done)); simp only [go_sem, *]) | ((with_reducible apply And.intro); focus omega) | (refine q7 hK ?_; clear hK; simp only [go_sem, *]) | simp only [q6, z8, go_sem, *])
  (refine R7 [1] (so) (by simp only [go_sem, *]) (.raw _) ?_; simp only [go_sem, *])
  repeat' (first | (refine Qr rfl ?_; try intro _ hK; try simp only [go_sem, *]) | refine Qh rfl ?_ | (refine Qc rfl rfl ?_ ?_ <;> (intro hb; have hc := hb; try simp only [go_sem] at hc)) | refine q8 rfl ?_ | ((with_reducible apply And.intro); focus omega) | (refine q7 hK ?_; clear hK; simp only [go_sem, *]) | simp only [q6, z8, go_sem, *])
  refine ⟨[_], [some 0], [], ⟨rfl, trivial⟩, ?_⟩
  simp only [go_sem, *]
 ·have e : zOJ true a.length b.length = (a.length : Int) - b.length := rfl
  have ex : zNn true = .raw (.func (.func 80) #[] #[]) := rfl
  rw [e] at so ⊢
  rw [ex]
  generalize (a.length : Int) - b.length = n at *
  generalize zNI a b = c at *
  generalize orI n c = r at *
  clear e ex s2
  refine q9 func118 rfl (fun E hE => ?_); simp only [go_sem, ntmps118]
  repeat' (first | (refine Qr rfl ?_; try intro _ hK; try simp only [go_sem, *]) | refine Qh rfl ?_ | (refine Qc rfl rfl ?_ ?_ <;> (intro hb; have hc := hb; try simp only [go_sem] at hc)) | refine q8 rfl ?_ | (refine x5 (s1) ?_ ?_; (focus (simp only [go_sem, *]; done)); simp only [go_sem, *]) | (refine x5 (s3) ?_ ?_; (focus (simp only [go_sem, *]; done)); simp only [go_sem, *]) | ((with_reducible apply And.intro); focus omega) | (refine q7 hK ?_; clear hK; simp only [go_sem, *]) | simp only [q6, z8, go_sem, *])
  (refine R7 [1] (so) (by simp only [go_sem, *]) (.raw _) ?_; simp only [go_sem, *])
  repeat' (first | (refine Qr rfl ?_; try intro _ hK; try simp only [go_sem, *]) | refine Qh rfl ?_ | (refine Qc rfl rfl ?_ ?_ <;> (intro hb; have hc := hb; try simp only [go_sem] at hc)) | refine q8 rfl ?_ | ((with_reducible apply And.intro); focus omega) | (refine q7 hK ?_; clear hK; simp only [go_sem, *]) | simp only [q6, z8, go_sem, *])
  refine ⟨[_], [some 0], [], ⟨rfl, trivial⟩, ?_⟩
  simp only [go_sem, *]
noncomputable def zBQ : Code := sub [0, 1, 0, 1, 1, 1] (W9 Tryz.f116)
noncomputable def P4 (fn : FuncId) : LoopK := ⟨fn, #[10], N2 zBQ, N3 zBQ, 23⟩
def zA4 : Option Str → AV
 | none => sV []
 | some c => sV c
@[go_sem] theorem zKE : zA4 none = .raw (.string ⟨#[]⟩) := rfl
@[go_sem] theorem zKF (c : Str) : zA4 (some c) = sV c := rfl
def a7 : Option Str → Value
 | none => .string ⟨#[]⟩
 | some c => .string ⟨c.toArray⟩
abbrev zEl : AV := .fn 118 [.ptr 4 0]
noncomputable abbrev c6 (fn : FuncId) (up : Bool) (B : Option Str) : List AObj := [.loopo (P4 fn) [(3, .ptr 1 0), (6, .ptr 2 0), (7, .ptr 3 0)] (some none), .box [zEl], .box [.raw (a7 B)], .box [bV B.isSome], .box [zNn up]]
theorem zJZ (fn : FuncId) (up : Bool) (c : Str) : e7 prog [sV c] (c6 fn up none) (bV true) (c6 fn up (some c)) := by
 simp only [c6, a7, Option.isSome_none, Option.isSome_some]
 refine S9 (L := P4 fn) (env := [(3, .ptr 1 0), (6, .ptr 2 0), (7, .ptr 3 0)]) (j := none) rfl rfl (fun E l hE => ?_)
 refine l5 rfl ?_
 simp only [P4, d8, go_sem]
 repeat' (first | (refine Qr (ops := _ :: _) rfl ?_; try intro _ hK; try simp only [go_sem, *]) | (refine Qi rfl rfl rfl rfl ?_ ?_ <;> (intro hb; (try intro _ hK); have hc := hb; try simp only [go_sem] at hc; simp only [go_sem, *])) | (refine Qb ?_ ?_; focus kernel_rfl) | ((with_reducible apply And.intro); focus omega) | (refine q7 hK ?_; clear hK; simp only [go_sem, *]) | simp only [q6, z8, go_sem, *])
 refine r9 ?_
 refine ⟨by simp only [go_sem], ?_⟩
 refine T9 (id := 1) rfl ?_
 refine Q2 rfl ?_
 refine l5 rfl ?_
 simp only [go_sem]
 repeat' (first | (refine Qr (ops := _ :: _) rfl ?_; try intro _ hK; try simp only [go_sem, *]) | (refine Qi rfl rfl rfl rfl ?_ ?_ <;> (intro hb; (try intro _ hK); have hc := hb; try simp only [go_sem] at hc; simp only [go_sem, *])) | (refine Qb ?_ ?_; focus kernel_rfl) | ((with_reducible apply And.intro); focus omega) | (refine q7 hK ?_; clear hK; simp only [go_sem, *]) | simp only [q6, z8, go_sem, *])
 refine r9 ?_
 refine U0 (t := true) rfl (by simp only [go_sem]) (fun _ => ?_) (fun h => by cases h)
 refine l5 rfl ?_
 simp only [go_sem]
 repeat' (first | (refine Qr (ops := _ :: _) rfl ?_; try intro _ hK; try simp only [go_sem, *]) | (refine Qi rfl rfl rfl rfl ?_ ?_ <;> (intro hb; (try intro _ hK); have hc := hb; try simp only [go_sem] at hc; simp only [go_sem, *])) | (refine Qb ?_ ?_; focus kernel_rfl) | ((with_reducible apply And.intro); focus omega) | (refine q7 hK ?_; clear hK; simp only [go_sem, *]) | simp only [q6, z8, go_sem, *])
 refine r9 ?_
 simp only [z8, go_sem]
 refine ⟨rfl, [some 0, some 1, some 2, some 3, some 4], [], ?_⟩
 simp only [go_sem, *]
theorem zJa (fn : FuncId) (up : Bool) (b c : Str) (hb1 : b.length ≤ 1000) (hc1 : c.length ≤ 1000) : e7 prog [sV c] (c6 fn up (some b)) (bV true) (c6 fn up (some (if zNK up c b < 0 then c else b))) := by
 have hca : t7 prog 118 = true := by kernel_rfl
 have sc := zII up c b hc1 hb1
 simp only [c6, a7, Option.isSome_none, Option.isSome_some]
 refine S9 (L := P4 fn) (env := [(3, .ptr 1 0), (6, .ptr 2 0), (7, .ptr 3 0)]) (j := none) rfl rfl (fun E l hE => ?_)
 refine l5 rfl ?_
 simp only [P4, d8, go_sem]
 repeat' (first | (refine Qr (ops := _ :: _) rfl ?_; try intro _ hK; try simp only [go_sem, *]) | (refine Qi rfl rfl rfl rfl ?_ ?_ <;> (intro hb; (try intro _ hK); have hc := hb; try simp only [go_sem] at hc; simp only [go_sem, *])) | (refine Qb ?_ ?_; focus kernel_rfl) | ((with_reducible apply And.intro); focus omega) | (refine q7 hK ?_; clear hK; simp only [go_sem, *]) | simp only [q6, z8, go_sem, *])
 refine r9 ?_
 refine ⟨by simp only [go_sem], ?_⟩
 refine T9 (id := 1) rfl ?_
 refine Q2 rfl ?_
 refine l5 rfl ?_
 simp only [go_sem]
 repeat' (first | (refine Qr (ops := _ :: _) rfl ?_; try intro _ hK; try simp only [go_sem, *]) | (refine Qi rfl rfl rfl rfl ?_ ?_ <;> (intro hb; (try intro _ hK); have hc := hb; try simp only [go_sem] at hc; simp only [go_sem, *])) | (refine Qb ?_ ?_; focus kernel_rfl) | ((with_reducible apply And.intro); focus omega) | (refine q7 hK ?_; clear hK; simp only [go_sem, *]) | simp only [q6, z8, go_sem, *])
 refine v8 [4] sc ?_
 simp only [go_sem]
 repeat' (first | (refine Qr (ops := _ :: _) rfl ?_; try intro _ hK; try simp only [go_sem, *]) | (refine Qi rfl rfl rfl rfl ?_ ?_ <;> (intro hb; (try intro _ hK); have hc := hb; try simp only [go_sem] at hc; simp only [go_sem, *])) | (refine Qb ?_ ?_; focus kernel_rfl) | ((with_reducible apply And.intro); focus omega) | (refine q7 hK ?_; clear hK; simp only [go_sem, *]) | simp only [q6, z8, go_sem, *])
 refine r9 ?_
 refine U0 (t := decide (zNK up c b < 0)) rfl (by simp only [go_sem]) (fun h => ?_) (fun h => ?_)
 ·rw [if_pos (by simpa using h)]
  refine l5 rfl ?_
  simp only [go_sem]
  repeat' (first | (refine Qr (ops := _ :: _) rfl ?_; try intro _ hK; try simp only [go_sem, *]) | (refine Qi rfl rfl rfl rfl ?_ ?_ <;> (intro hb; (try intro _ hK); have hc := hb; try simp only [go_sem] at hc; simp only [go_sem, *])) | (refine Qb ?_ ?_; focus kernel_rfl) | ((with_reducible apply And.intro); focus omega) | (refine q7 hK ?_; clear hK; simp only [go_sem, *]) | simp only [q6, z8, go_sem, *])
  refine r9 ?_
  simp only [z8, go_sem]
  refine ⟨rfl, [some 0, some 1, some 2, some 3, some 4], [], ?_⟩
  simp only [go_sem, *]
 ·rw [if_neg (by simpa using h)]
  refine J4 rfl ?_
  simp only [z8, go_sem]
  refine ⟨rfl, [some 0, some 1, some 2, some 3, some 4], [], ?_⟩
  simp only [go_sem, *]
theorem zJY (fn : FuncId) (up : Bool) (B : Option Str) (c : Str) (hb1 : ∀ b, B = some b → b.length ≤ 1000) (hc1 : c.length ≤ 1000) : e7 prog [sV c] (c6 fn up B) (bV true) (c6 fn up (x6 (zNK up) B [c])) := by
 cases B with
 | none => exact zJZ fn up c
 | some b =>
  have := zJa fn up b c (hb1 b rfl) hc1
  rw [zBR]
  by_cases h : zNK up c b < 0
  ·simp only [if_pos h] at this ⊢; exact this
  ·simp only [if_neg h] at this ⊢; exact this
end Go.Abs

namespace Go.Abs
open Go Go.Proofs Tryz
attribute [local irreducible] y4 Hold y9
theorem zID (fn : FuncId) (up : Bool) (L : List Str) (B : Option Str) (hL : L.length ≤ 2000000000) (hs : ∀ s, s ∈ L → s.length ≤ 1000) (hB : ∀ b, B = some b → b.length ≤ 1000) :
  zNF prog 141 [.yld 0, .ptr 5 0] (c6 fn up B ++ [.box [y7 L]]) (.tup []) (c6 fn up (x6 (zNK up) B L) ++ [.box [y7 L]]) := by
 obtain ⟨T, hT⟩ : ∃ T, x6 (zNK up) B L = T := ⟨_, rfl⟩
 rw [hT]
 have h0 : x6 (zNK up) B (L.drop 0) = T := hT
 clear hT
 simp only [c6, List.cons_append, List.nil_append]
 refine q9 func141 rfl (fun E hE => ?_); simp only [go_sem, ntmps141]
 repeat' (first | (refine Qr rfl ?_; try intro _ hK; try simp only [go_sem, *]) | refine Qh rfl ?_ | (refine Qc rfl rfl ?_ ?_ <;> (intro hb; have hc := hb; try simp only [go_sem] at hc)) | refine q8 rfl ?_ | ((with_reducible apply And.intro); focus omega) | (refine q7 hK ?_; clear hK; simp only [go_sem, *]) | simp only [q6, z8, go_sem, *])
 refine c7 rfl (L.length) (fun i (Z : Option Str) => x6 (zNK up) Z (L.drop i) = T ∧ ∀ b, Z = some b → b.length ≤ 1000) 16 (fun i Z => [(7, iV i), (6, iV L.length), (5, y7 L), (0, .yld 0)]) (fun i Z => c6 fn up Z ++ [.box [y7 L]]) [some 0, some 1, some 2, some 3, some 4, some 5] [] (B) (by exact ⟨h0, hB⟩) ?_; intro i Z hi hP
 obtain ⟨hP, hZ⟩ := hP
 by_cases hi2 : i < L.length
 ·have hcl := hs _ (o7 hi2)
  rw [j3 hi2] at hP
  have hP : x6 (zNK up) (x6 (zNK up) Z [L.getD i default]) (L.drop (i + 1)) = T := by rw [← hP, ← L4]; rfl
  have hy := zJY fn up Z (L.getD i default) hZ hcl
  have hZ2 : ∀ b, x6 (zNK up) Z [L.getD i default] = some b → b.length ≤ 1000 := fun b hb2 => by
   rcases L5 hb2 with h | h
   ·exact hZ b h
   ·rw [List.mem_singleton.1 h]; exact hcl
  generalize x6 (zNK up) Z [L.getD i default] = Z2 at *
  clear h0 hB hs hZ hcl
  repeat' (first | ((refine I3 2 rfl rfl rfl ?_; simp only [List.take_succ_cons, List.take_zero, List.drop_succ_cons, List.drop_zero])) | (refine Qr rfl ?_; try intro _ hK; try simp only [go_sem, *]) | refine Qh rfl ?_ | (refine Qc rfl rfl ?_ ?_ <;> (intro hb; have hc := hb; try simp only [go_sem] at hc)) | refine q8 rfl ?_ | ((with_reducible apply And.intro); focus omega) | (refine q7 hK ?_; clear hK; simp only [go_sem, *]) | simp only [q6, z8, go_sem, *])
  all_goals first | contradiction | omega | skip
  refine zBh rfl ?_
  refine D0 [0, 1, 2, 3, 4] [] hy rfl rfl (by simp) (by simp only [go_sem]) (by simp only [go_sem]) (by simp) (.inl rfl) (by simp [go_sem]) (by simp [go_sem]) ?_
  simp only [go_sem]
  repeat' (first | (refine Qr rfl ?_; try intro _ hK; try simp only [go_sem, *]) | refine Qh rfl ?_ | (refine Qc rfl rfl ?_ ?_ <;> (intro hb; have hc := hb; try simp only [go_sem] at hc)) | refine q8 rfl ?_ | ((with_reducible apply And.intro); focus omega) | (refine q7 hK ?_; clear hK; simp only [go_sem, *]) | simp only [q6, z8, go_sem, *])
  all_goals first | contradiction | omega | skip
  exact p5 (i' := i + 1) [some 0, some 1, some 2, some 3, some 4, some 5] [] (Z2) (by exact ⟨hP, hZ2⟩)
 ·rw [c0 (by omega)] at hP
  have hP : Z = T := by cases Z <;> exact hP
  subst hP
  clear h0 hB hs hZ
  repeat' (first | (refine Qr rfl ?_; try intro _ hK; try simp only [go_sem, *]) | refine Qh rfl ?_ | (refine Qc rfl rfl ?_ ?_ <;> (intro hb; have hc := hb; try simp only [go_sem] at hc)) | refine q8 rfl ?_ | ((with_reducible apply And.intro); focus omega) | (refine q7 hK ?_; clear hK; simp only [go_sem, *]) | simp only [q6, z8, go_sem, *])
  all_goals first | contradiction | omega | skip
  refine ⟨[], [some 0, some 1, some 2, some 3, some 4, some 5], [], trivial, ?_⟩
  simp only [go_sem, f5, *]
theorem zIC (L : List Str) : zNF prog 117 [y7 L] [] (.fn 141 [.ptr 0 0]) [.box [y7 L]] := by
 refine q9 func117 rfl (fun E hE => ?_); simp only [go_sem, ntmps117]
 repeat' (first | (refine Qr rfl ?_; try intro _ hK; try simp only [go_sem, *]) | refine Qh rfl ?_ | (refine Qc rfl rfl ?_ ?_ <;> (intro hb; have hc := hb; try simp only [go_sem] at hc)) | refine q8 rfl ?_ | ((with_reducible apply And.intro); focus omega) | (refine q7 hK ?_; clear hK; simp only [go_sem, *]) | simp only [q6, z8, go_sem, *])
 refine ⟨[_], [some 0], [], ⟨rfl, trivial⟩, ?_⟩
 simp only [go_sem, *]
theorem zIL (up : Bool) (L : List Str) (hL : L.length ≤ 2000000000) (hs : ∀ s, s ∈ L → s.length ≤ 1000) :
  zNF prog 116 [.fn 141 [.ptr 0 0], .fn 118 [.ptr 1 0]] [.box [y7 L], .box [zNn up]] (.tup [.raw (a7 (c5 (zNK up) L)), bV (c5 (zNK up) L).isSome]) [.box [y7 L], .box [zNn up]] := by
 have s1 := fun fn => zID fn up L none hL hs (fun b h => by cases h)
 have e : c5 (zNK up) L = x6 (zNK up) none L := rfl
 rw [e]
 generalize x6 (zNK up) none L = B at *
 clear hs e
 simp only [c6, List.cons_append, List.nil_append, show a7 none = .string ⟨#[]⟩ from rfl, Option.isSome_none] at s1
 refine q9 func116 rfl (fun E hE => ?_); simp only [go_sem, ntmps116]
 repeat' (first | (refine Qr rfl ?_; try intro _ hK; try simp only [go_sem, *]) | refine Qh rfl ?_ | refine Qd rfl (by kernel_rfl) ?_ | (refine Qc rfl rfl ?_ ?_ <;> (intro hb; have hc := hb; try simp only [go_sem] at hc)) | refine q8 rfl ?_ | (refine Qb ?_ ?_; focus kernel_rfl) | ((with_reducible apply And.intro); focus omega) | (refine q7 hK ?_; clear hK; simp only [go_sem, *]) | simp only [q6, z8, go_sem, *])
 refine T5 (N := 23) (env := [(9, .fn 141 [.ptr 0 0]), (3, .ptr 2 0), (6, .ptr 3 0), (7, .ptr 4 0)]) (As := [.box [y7 L], .box [zNn up], .box [.fn 118 [.ptr 1 0]], .box [sV []], .box [bV false]]) [some 0, some 1, some 2, some 3, some 4] [] (by (simp only [Weak, go_sem, List.map_append, List.map_set, *] <;> (try simp (disch := omega) only [t6]) <;> (try simp) <;> (try omega))) ?_
 refine E0 (f := 141) (caps := [.ptr 0 0]) rfl (by simp only [go_sem]) (by kernel_rfl) (nx := 5) (by simp only [go_sem]) (fun fn => ⟨6, ?_⟩)
 refine r7 [5, 2, 3, 4, 1, 0] [] (s1 fn) (by simp) (by simp only [go_sem]) ?_ (by simp) (.inl rfl) (by simp [go_sem]) (by simp [go_sem]) ?_
 ·simp only [go_sem, *]
  first | rfl | exact ⟨rfl, rfl⟩
 ·simp only [go_sem, *]
  refine ⟨P4 fn, [(3, .ptr 2 0), (6, .ptr 3 0), (7, .ptr 4 0)], none, by simp only [go_sem], ?_⟩
  simp only [go_sem]
  repeat' (first | (refine Qr rfl ?_; try intro _ hK; try simp only [go_sem, *]) | refine Qh rfl ?_ | refine Qd rfl (by kernel_rfl) ?_ | (refine Qc rfl rfl ?_ ?_ <;> (intro hb; have hc := hb; try simp only [go_sem] at hc)) | refine q8 rfl ?_ | (refine Qb ?_ ?_; focus kernel_rfl) | ((with_reducible apply And.intro); focus omega) | (refine q7 hK ?_; clear hK; simp only [go_sem, *]) | simp only [q6, z8, go_sem, *])
  refine ⟨[_, _], [some 0, some 1], [], ⟨rfl, rfl, trivial⟩, ?_⟩
  simp only [go_sem, *]
end Go.Abs

namespace Go.Abs
open Go Go.Proofs Tryz
attribute [local irreducible] y4 Hold y9
def okC (l : List Str) (own : Str) (most : Int) (s : Str) : Bool := decide ((s.length : Int) ≤ most) && !p8 s l own
theorem zCy (l : List Str) (own : Str) (most : Int) (up : Bool) (hv : ∀ s, s ∈ l → ValidN s) (hl : l.length ≤ 1000) (ho0 : 0 < own.length) (ho : own.length ≤ 12) (_hm : -1000 ≤ most ∧ most ≤ 1000) :
  zNF prog 79 [y7 l, sV own, iV most, zNn up] [] (.tup [.raw (a7 (zNN l own most up)), bV (zNN l own most up).isSome]) [] := by
 have hca : t7 prog 114 = true := by kernel_rfl
 have hcb : t7 prog 115 = true := by kernel_rfl
 have sc := zIJ own ho0 ho
 have sm := fun k h0 h1 => zIY k own l h0 h1 hv hl
 refine q9 func79 rfl (fun E hE => ?_); simp only [go_sem, ntmps79]
 repeat' (first | ((refine zHO 1 rfl rfl rfl hcb rfl ?_; simp only [List.take_succ_cons, List.take_zero, List.drop_succ_cons, List.drop_zero])) | (refine Qr rfl ?_; try intro _ hK; try simp only [go_sem, *]) | (refine Qi rfl rfl rfl rfl ?_ ?_ <;> (intro hb; (try intro _ hK); have hc := hb; try simp only [go_sem] at hc; simp only [go_sem, *])) | refine Qh rfl ?_ | (refine Qc rfl rfl ?_ ?_ <;> (intro hb; have hc := hb; try simp only [go_sem] at hc)) | refine q8 rfl ?_ | ((with_reducible apply And.intro); focus omega) | (refine q7 hK ?_; clear hK; simp only [go_sem, *]) | simp only [q6, z8, go_sem, *])
 refine D5 ⟨V1 own, fun s => zCM, zBF ho ho0⟩ [] [] sc (by simp) (by simp only [go_sem]) trivial (by simp) (.inl rfl) (by simp [go_sem]) (by simp [go_sem]) (fun L => ?_)
 obtain ⟨L, hLm, hLl⟩ := L
 simp only [go_sem]
 clear sc
 obtain ⟨F, hF⟩ : ∃ F, L.filter (okC l own most) = F := ⟨_, rfl⟩
 have hcut : c5 (zNK up) F = zNN l own most up := zEn (fun s => by
  rw [← hF, List.mem_filter, hLm]
  unfold okC W7
  simp only [Bool.and_eq_true, decide_eq_true_eq, Bool.not_eq_true'])
 have hFs : ∀ s, s ∈ F → s.length ≤ 1000 := fun s hs => by
  rw [← hF, List.mem_filter, hLm] at hs
  obtain ⟨⟨t, _, _, h⟩, _⟩ := hs
  omega
 have h0 : [] ++ (L.drop 0).filter (okC l own most) = F := hF
 rw [← hcut]
 have hFl : F.length ≤ 2000000000 := by rw [← hF]; exact Nat.le_trans (List.length_filter_le _ _) hLl
 have hLs : ∀ s, s ∈ L → 0 < s.length ∧ s.length ≤ 12 := fun s hs => by
  have h := (hLm s).1 hs
  have h1 := G1 h
  obtain ⟨t, _, _, h⟩ := h
  omega
 clear hF hcut hLm
 repeat' (first | (refine Qr rfl ?_; try intro _ hK; try simp only [go_sem, *]) | (refine Qi rfl rfl rfl rfl ?_ ?_ <;> (intro hb; (try intro _ hK); have hc := hb; try simp only [go_sem] at hc; simp only [go_sem, *])) | refine Qh rfl ?_ | (refine Qc rfl rfl ?_ ?_ <;> (intro hb; have hc := hb; try simp only [go_sem] at hc)) | refine q8 rfl ?_ | ((with_reducible apply And.intro); focus omega) | (refine q7 hK ?_; clear hK; simp only [go_sem, *]) | simp only [q6, z8, go_sem, *])
 refine c7 rfl (L.length) (fun i (acc : List Str) => acc ++ (L.drop i).filter (okC l own most) = F) 43 (fun i acc => [(17, iV i), (16, iV L.length), (15, .own 1 1 0 L.length), (10, .own 2 1 0 acc.length), (11, fnV 114), (7, .ptr 0 0), (0, y7 l), (1, sV own), (2, iV most)]) (fun i acc => [.box [zNn up], .row 1 (L.map sV), .row 1 (acc.map sV)]) [some 0, some 1, none] [] ([]) (by exact h0) ?_; intro i acc hi hP
 clear h0
 by_cases hi2 : i < L.length
 ·obtain ⟨hx0, hx1⟩ := hLs _ (o7 hi2)
  have s1 := sm _ hx0 (by omega)
  have hal : acc.length ≤ 2000000000 := by
   have := congrArg List.length hP
   rw [List.length_append] at this
   omega
  rw [j3 hi2, List.filter_cons, show okC l own most (L.getD i default) = (decide (((L.getD i default).length : Int) ≤ most) && !p8 (L.getD i default) l own) from rfl] at hP
  generalize hxe : L.getD i default = x at *
  generalize p8 x l own = b at *
  clear sm hLs hv
  by_cases q : (x.length : Int) ≤ most
  ·cases b
   ·rw [decide_eq_true q] at hP
    have hP : (acc ++ [x]) ++ (L.drop (i + 1)).filter (okC l own most) = F := by rw [← hP]; simp
    repeat' (first | (refine Qr rfl ?_; try intro _ hK; try simp only [go_sem, *]) | (refine Qi rfl rfl rfl rfl ?_ ?_ <;> (intro hb; (try intro _ hK); have hc := hb; try simp only [go_sem] at hc; simp only [go_sem, *])) | refine Qh rfl ?_ | (refine Qc rfl rfl ?_ ?_ <;> (intro hb; have hc := hb; try simp only [go_sem] at hc)) | refine q8 rfl ?_ | (refine y5 (s1) ?_; simp only [go_sem, *]) | ((with_reducible apply And.intro); focus omega) | (refine q7 hK ?_; clear hK; simp only [go_sem, *]) | simp only [q6, z8, go_sem, *])
    all_goals first | contradiction | omega | skip
    exact p5 (i' := i + 1) [some 0, some 1, some 4] [] (acc ++ [x]) (by exact hP)
   ·rw [decide_eq_true q] at hP
    have hP : acc ++ (L.drop (i + 1)).filter (okC l own most) = F := hP
    repeat' (first | (refine Qr rfl ?_; try intro _ hK; try simp only [go_sem, *]) | (refine Qi rfl rfl rfl rfl ?_ ?_ <;> (intro hb; (try intro _ hK); have hc := hb; try simp only [go_sem] at hc; simp only [go_sem, *])) | refine Qh rfl ?_ | (refine Qc rfl rfl ?_ ?_ <;> (intro hb; have hc := hb; try simp only [go_sem] at hc)) | refine q8 rfl ?_ | (refine y5 (s1) ?_; simp only [go_sem, *]) | ((with_reducible apply And.intro); focus omega) | (refine q7 hK ?_; clear hK; simp only [go_sem, *]) | simp only [q6, z8, go_sem, *])
    all_goals first | contradiction | omega | skip
    exact p5 (i' := i + 1) [some 0, some 1, some 2] [] (acc) (by exact hP)
  ·rw [decide_eq_false q] at hP
   have hP : acc ++ (L.drop (i + 1)).filter (okC l own most) = F := hP
   repeat' (first | (refine Qr rfl ?_; try intro _ hK; try simp only [go_sem, *]) | (refine Qi rfl rfl rfl rfl ?_ ?_ <;> (intro hb; (try intro _ hK); have hc := hb; try simp only [go_sem] at hc; simp only [go_sem, *])) | refine Qh rfl ?_ | (refine Qc rfl rfl ?_ ?_ <;> (intro hb; have hc := hb; try simp only [go_sem] at hc)) | refine q8 rfl ?_ | (refine y5 (s1) ?_; simp only [go_sem, *]) | ((with_reducible apply And.intro); focus omega) | (refine q7 hK ?_; clear hK; simp only [go_sem, *]) | simp only [q6, z8, go_sem, *])
   all_goals first | contradiction | omega | skip
   exact p5 (i' := i + 1) [some 0, some 1, some 2] [] (acc) (by exact hP)
 ·rw [c0 (by omega)] at hP
  have hP : acc = F := by rw [← hP]; simp
  subst hP
  clear sm hLs hv
  have sV1 := zIC acc
  have sF := zIL up acc hFl hFs
  generalize c5 (zNK up) acc = o at *
  clear hFs
  repeat' (first | (refine Qr rfl ?_; try intro _ hK; try simp only [go_sem, *]) | (refine Qi rfl rfl rfl rfl ?_ ?_ <;> (intro hb; (try intro _ hK); have hc := hb; try simp only [go_sem] at hc; simp only [go_sem, *])) | refine Qh rfl ?_ | (refine Qc rfl rfl ?_ ?_ <;> (intro hb; have hc := hb; try simp only [go_sem] at hc)) | refine q8 rfl ?_ | ((with_reducible apply And.intro); focus omega) | (refine q7 hK ?_; clear hK; simp only [go_sem, *]) | simp only [q6, z8, go_sem, *])
  all_goals first | contradiction | omega | skip
  refine Q4 [] [2] sV1 rfl (by simp only [go_sem]) (by simp) ?_ ?_ (by simp [go_sem]) (by simp [go_sem]) ?_
  ·simp only [go_sem, *]
  ·simp only [go_sem, *]
  simp only [go_sem, u6, *]
  repeat' (first | (refine Qr rfl ?_; try intro _ hK; try simp only [go_sem, *]) | (refine Qi rfl rfl rfl rfl ?_ ?_ <;> (intro hb; (try intro _ hK); have hc := hb; try simp only [go_sem] at hc; simp only [go_sem, *])) | refine Qh rfl ?_ | (refine Qc rfl rfl ?_ ?_ <;> (intro hb; have hc := hb; try simp only [go_sem] at hc)) | refine q8 rfl ?_ | ((with_reducible apply And.intro); focus omega) | (refine q7 hK ?_; clear hK; simp only [go_sem, *]) | simp only [q6, z8, go_sem, *])
  refine v8 [3, 0] sF ?_
  simp only [go_sem, *]
  repeat' (first | (refine Qr rfl ?_; try intro _ hK; try simp only [go_sem, *]) | (refine Qi rfl rfl rfl rfl ?_ ?_ <;> (intro hb; (try intro _ hK); have hc := hb; try simp only [go_sem] at hc; simp only [go_sem, *])) | refine Qh rfl ?_ | (refine Qc rfl rfl ?_ ?_ <;> (intro hb; have hc := hb; try simp only [go_sem] at hc)) | refine q8 rfl ?_ | ((with_reducible apply And.intro); focus omega) | (refine q7 hK ?_; clear hK; simp only [go_sem, *]) | simp only [q6, z8, go_sem, *])
  all_goals first | contradiction | omega | skip
  (refine ⟨[_, _], [], [], ⟨rfl, rfl, trivial⟩, ?_⟩; simp only [go_sem, *])
end Go.Abs

namespace Go.Abs
open Go Go.Proofs Tryz
attribute [local irreducible] y4 Hold y9
theorem zGC {s : Str} (v : ValidN s) : 0 < (zNG s).length ∧ (zNG s).length ≤ 12 := by
 have h := K1 v
 unfold x7 at h
 simp only [Bool.and_eq_true, decide_eq_true_eq] at h
 omega
theorem zC1 (l : List Str) (n : Int) (hl : l.length ≤ 4294967296) : zNF prog 78 [y7 l, iV n] [] (.tup [sV (if j4 l n = 0 then t8 l n else []), iV (j4 l n)]) [] := by
 have s1 := E6 l hl
 unfold j4
 by_cases q : u9 l = 0
 ·rw [if_pos q]
  rw [q] at s1
  have hv := K4 q
  by_cases q2 : n < 0 ∨ (l.length : Int) ≤ n
  ·rw [if_pos q2, if_neg (by decide)]
   clear hv
   by_cases q3 : n < 0
   ·refine q9 func78 rfl (fun E hE => ?_); simp only [go_sem, ntmps78]
    repeat' (first | (refine Qr rfl ?_; try intro _ hK; try simp only [go_sem, *]) | (refine Qi rfl rfl rfl rfl ?_ ?_ <;> (intro hb; (try intro _ hK); have hc := hb; try simp only [go_sem] at hc; simp only [go_sem, *])) | refine Qh rfl ?_ | (refine Qc rfl rfl ?_ ?_ <;> (intro hb; have hc := hb; try simp only [go_sem] at hc)) | refine q8 rfl ?_ | (refine y5 (s1) ?_; simp only [go_sem, *]) | ((with_reducible apply And.intro); focus omega) | (refine q7 hK ?_; clear hK; simp only [go_sem, *]) | simp only [q6, z8, go_sem, *])
    all_goals first | contradiction | omega | skip
    (refine ⟨[_, _], [], [], ⟨rfl, rfl, trivial⟩, ?_⟩; simp only [go_sem, *])
   ·have q4 : (l.length : Int) ≤ n := q2.resolve_left q3
    clear q2
    refine q9 func78 rfl (fun E hE => ?_); simp only [go_sem, ntmps78]
    repeat' (first | (refine Qr rfl ?_; try intro _ hK; try simp only [go_sem, *]) | (refine Qi rfl rfl rfl rfl ?_ ?_ <;> (intro hb; (try intro _ hK); have hc := hb; try simp only [go_sem] at hc; simp only [go_sem, *])) | refine Qh rfl ?_ | (refine Qc rfl rfl ?_ ?_ <;> (intro hb; have hc := hb; try simp only [go_sem] at hc)) | refine q8 rfl ?_ | (refine y5 (s1) ?_; simp only [go_sem, *]) | ((with_reducible apply And.intro); focus omega) | (refine q7 hK ?_; clear hK; simp only [go_sem, *]) | simp only [q6, z8, go_sem, *])
    all_goals first | contradiction | omega | skip
    (refine ⟨[_, _], [], [], ⟨rfl, rfl, trivial⟩, ?_⟩; simp only [go_sem, *])
  ·rw [if_neg q2, if_pos rfl]
   obtain ⟨i, rfl⟩ : ∃ i : Nat, n = i := ⟨n.toNat, by omega⟩
   have hi2 : i < l.length := by omega
   have v := hv _ (o7 hi2)
   have so := X8 _ v.form (by have := v.len; omega)
   have e : t8 l (i : Int) = zNG (l.getD i default) := rfl
   rw [e]
   generalize zNG (l.getD i default) = k at *
   clear hv e v q2
   have q3 : ¬ (i : Int) < 0 := by omega
   refine q9 func78 rfl (fun E hE => ?_); simp only [go_sem, ntmps78]
   repeat' (first | (refine Qr rfl ?_; try intro _ hK; try simp only [go_sem, *]) | (refine Qi rfl rfl rfl rfl ?_ ?_ <;> (intro hb; (try intro _ hK); have hc := hb; try simp only [go_sem] at hc; simp only [go_sem, *])) | refine Qh rfl ?_ | (refine Qc rfl rfl ?_ ?_ <;> (intro hb; have hc := hb; try simp only [go_sem] at hc)) | refine q8 rfl ?_ | ((first | refine y5 (s1) ?_ | refine y5 (so) ?_); simp only [go_sem, *]) | ((with_reducible apply And.intro); focus omega) | (refine q7 hK ?_; clear hK; simp only [go_sem, *]) | simp only [q6, z8, go_sem, *])
   all_goals first | contradiction | omega | skip
   (refine ⟨[_, _], [], [], ⟨rfl, rfl, trivial⟩, ?_⟩; simp only [go_sem, *])
 ·rw [if_neg q, if_neg q]
  generalize u9 l = e at *
  refine q9 func78 rfl (fun E hE => ?_); simp only [go_sem, ntmps78]
  repeat' (first | (refine Qr rfl ?_; try intro _ hK; try simp only [go_sem, *]) | (refine Qi rfl rfl rfl rfl ?_ ?_ <;> (intro hb; (try intro _ hK); have hc := hb; try simp only [go_sem] at hc; simp only [go_sem, *])) | refine Qh rfl ?_ | (refine Qc rfl rfl ?_ ?_ <;> (intro hb; have hc := hb; try simp only [go_sem] at hc)) | refine q8 rfl ?_ | (refine y5 (s1) ?_; simp only [go_sem, *]) | ((with_reducible apply And.intro); focus omega) | (refine q7 hK ?_; clear hK; simp only [go_sem, *]) | simp only [q6, z8, go_sem, *])
  all_goals first | contradiction | omega | skip
  (refine ⟨[_, _], [], [], ⟨rfl, rfl, trivial⟩, ?_⟩; simp only [go_sem, *])
theorem zBo {l : List Str} {n : Int} (q : j4 l n = 0) : (∀ s, s ∈ l → ValidN s) ∧ l.length ≤ 6 ∧ 0 < (t8 l n).length ∧ (t8 l n).length ≤ 12 := by
 unfold j4 at q
 by_cases a : u9 l = 0
 ·rw [if_pos a] at q
  by_cases b : n < 0 ∨ (l.length : Int) ≤ n
  ·rw [if_pos b] at q; cases q
  ·have hv := K4 a
   have v : ValidN (l.getD n.toNat default) := hv _ (o7 (by omega))
   exact ⟨hv, G4 a, zGC v⟩
 ·rw [if_neg a] at q; exact absurd q a
theorem zBE {l : List Str} {own : Str} {most : Int} {up : Bool} {s : Str} (h : zNN l own most up = some s) : s.length < own.length := by
 obtain ⟨⟨t, _, _, h⟩, _⟩ := (cutN_some.1 h).1
 exact h
theorem zH7 (l : List Str) (n : Int) (hl : l.length ≤ 4294967296) : zNF prog 29 [y7 l, iV n] [] (.tup [sV (N6 l n), iV (N5 l n)]) [] := by
 have s1 := zC1 l n hl
 unfold N6 N5
 by_cases q : j4 l n = 0
 ·obtain ⟨hv, h6, hk0, hk1⟩ := zBo q
  rw [if_pos q] at s1
  rw [if_pos q, if_pos q]
  rw [q] at s1
  have sc : zNF prog 79 [y7 l, sV (t8 l n), iV 12, fnV 80] [] (.tup [.raw (a7 (zNN l (t8 l n) 12 true)), bV (zNN l (t8 l n) 12 true).isSome]) [] := zCy l (t8 l n) 12 true hv (by omega) hk0 hk1 (by omega)
  have hcl := fun s => zBE (l := l) (own := t8 l n) (most := 12) (up := true) (s := s)
  generalize t8 l n = k at *
  generalize zNN l k 12 true = o at *
  clear hv q
  cases o with
  | none =>
   rw [show (none : Option Str).isSome = false from rfl] at sc ⊢
   rw [if_neg (by decide)]
   simp only [a7, Option.map_none, Option.getD_none] at sc ⊢
   refine q9 func29 rfl (fun E hE => ?_); simp only [go_sem, ntmps29]
   repeat' (first | (refine Qr rfl ?_; try intro _ hK; try simp only [go_sem, *]) | refine Qh rfl ?_ | (refine Qc rfl rfl ?_ ?_ <;> (intro hb; have hc := hb; try simp only [go_sem] at hc)) | refine q8 rfl ?_ | ((first | refine y5 (s1) ?_ | refine y5 (sc) ?_); simp only [go_sem, *]) | ((with_reducible apply And.intro); focus omega) | (refine q7 hK ?_; clear hK; simp only [go_sem, *]) | simp only [q6, z8, go_sem, *])
   all_goals try contradiction
   (refine ⟨[_, _], [], [], ⟨rfl, rfl, trivial⟩, ?_⟩; simp only [go_sem, *])
  | some c =>
   have hc1 := hcl c rfl
   rw [show (some c : Option Str).isSome = true from rfl] at sc ⊢
   rw [if_pos rfl]
   simp only [a7, Option.map_some, Option.getD_some, zOD] at sc ⊢
   clear hcl
   refine q9 func29 rfl (fun E hE => ?_); simp only [go_sem, ntmps29]
   repeat' (first | (refine Qr rfl ?_; try intro _ hK; try simp only [go_sem, *]) | refine Qh rfl ?_ | (refine Qc rfl rfl ?_ ?_ <;> (intro hb; have hc := hb; try simp only [go_sem] at hc)) | refine q8 rfl ?_ | ((first | refine y5 (s1) ?_ | refine y5 (sc) ?_); simp only [go_sem, *]) | ((with_reducible apply And.intro); focus omega) | (refine q7 hK ?_; clear hK; simp only [go_sem, *]) | simp only [q6, z8, go_sem, *])
   all_goals try contradiction
   (refine ⟨[_, _], [], [], ⟨rfl, rfl, trivial⟩, ?_⟩; simp only [go_sem, *])
 ·rw [if_neg q] at s1
  rw [if_neg q, if_neg q]
  generalize j4 l n = e at *
  refine q9 func29 rfl (fun E hE => ?_); simp only [go_sem, ntmps29]
  repeat' (first | (refine Qr rfl ?_; try intro _ hK; try simp only [go_sem, *]) | refine Qh rfl ?_ | (refine Qc rfl rfl ?_ ?_ <;> (intro hb; have hc := hb; try simp only [go_sem] at hc)) | refine q8 rfl ?_ | (refine y5 (s1) ?_; simp only [go_sem, *]) | ((with_reducible apply And.intro); focus omega) | (refine q7 hK ?_; clear hK; simp only [go_sem, *]) | simp only [q6, z8, go_sem, *])
  all_goals try contradiction
  (refine ⟨[_, _], [], [], ⟨rfl, rfl, trivial⟩, ?_⟩; simp only [go_sem, *])
theorem zHy (l : List Str) (n w : Int) (hl : l.length ≤ 4294967296) : zNF prog 31 [y7 l, iV n, iV w] [] (.tup [sV (zOP l n w), iV (B0 l n w)]) [] := by
 have s1 := zC1 l n hl
 unfold zOP B0
 by_cases q : j4 l n = 0
 ·obtain ⟨hv, h6, hk0, hk1⟩ := zBo q
  rw [if_pos q] at s1
  rw [if_pos q, if_pos q]
  rw [q] at s1
  by_cases q1 : w < 1
  ·rw [if_pos q1, if_pos q1]
   clear hv q
   generalize t8 l n = k at *
   refine q9 func31 rfl (fun E hE => ?_); simp only [go_sem, ntmps31]
   repeat' (first | (refine Qr rfl ?_; try intro _ hK; try simp only [go_sem, *]) | refine Qh rfl ?_ | (refine Qc rfl rfl ?_ ?_ <;> (intro hb; have hc := hb; try simp only [go_sem] at hc)) | refine q8 rfl ?_ | (refine y5 (s1) ?_; simp only [go_sem, *]) | ((with_reducible apply And.intro); focus omega) | (refine q7 hK ?_; clear hK; simp only [go_sem, *]) | simp only [q6, z8, go_sem, *])
   all_goals try contradiction
   (refine ⟨[_, _], [], [], ⟨rfl, rfl, trivial⟩, ?_⟩; simp only [go_sem, *])
  ·rw [if_neg q1, if_neg q1]
   by_cases q2 : ((t8 l n).length : Int) ≤ w
   ·rw [if_pos q2, if_pos q2]
    clear hv q
    generalize t8 l n = k at *
    refine q9 func31 rfl (fun E hE => ?_); simp only [go_sem, ntmps31]
    repeat' (first | (refine Qr rfl ?_; try intro _ hK; try simp only [go_sem, *]) | refine Qh rfl ?_ | (refine Qc rfl rfl ?_ ?_ <;> (intro hb; have hc := hb; try simp only [go_sem] at hc)) | refine q8 rfl ?_ | (refine y5 (s1) ?_; simp only [go_sem, *]) | ((with_reducible apply And.intro); focus omega) | (refine q7 hK ?_; clear hK; simp only [go_sem, *]) | simp only [q6, z8, go_sem, *])
    all_goals try contradiction
    (refine ⟨[_, _], [], [], ⟨rfl, rfl, trivial⟩, ?_⟩; simp only [go_sem, *])
   ·rw [if_neg q2, if_neg q2]
    have hw : IntKind.i64.wrap (w - 1) = w - 1 := wrap_i64 (by omega) (by omega)
    have sc : zNF prog 79 [y7 l, sV (t8 l n), iV (w - 1), fnV 83] [] (.tup [.raw (a7 (zNN l (t8 l n) (w - 1) false)), bV (zNN l (t8 l n) (w - 1) false).isSome]) [] := zCy l (t8 l n) (w - 1) false hv (by omega) hk0 hk1 (by omega)
    have hcl := fun s => zBE (l := l) (own := t8 l n) (most := w - 1) (up := false) (s := s)
    generalize t8 l n = k at *
    generalize zNN l k (w - 1) false = o at *
    clear hv q
    cases o with
    | none =>
     rw [show (none : Option Str).isSome = false from rfl] at sc ⊢
     rw [if_neg (by decide)]
     simp only [a7, Option.map_none, Option.getD_none] at sc ⊢
     refine q9 func31 rfl (fun E hE => ?_); simp only [go_sem, ntmps31]
     repeat' (first | (refine Qr rfl ?_; try intro _ hK; try simp only [go_sem, *]) | refine Qh rfl ?_ | (refine Qc rfl rfl ?_ ?_ <;> (intro hb; have hc := hb; try simp only [go_sem] at hc)) | refine q8 rfl ?_ | ((first | refine y5 (s1) ?_ | refine y5 (sc) ?_); simp only [go_sem, *]) | ((with_reducible apply And.intro); focus omega) | (refine q7 hK ?_; clear hK; simp only [go_sem, *]) | simp only [q6, z8, go_sem, *])
     all_goals try contradiction
     (refine ⟨[_, _], [], [], ⟨rfl, rfl, trivial⟩, ?_⟩; simp only [go_sem, *])
    | some c =>
     have hc1 := hcl c rfl
     rw [show (some c : Option Str).isSome = true from rfl] at sc ⊢
     rw [if_pos rfl]
     simp only [a7, Option.map_some, Option.getD_some, zOD] at sc ⊢
     clear hcl
     refine q9 func31 rfl (fun E hE => ?_); simp only [go_sem, ntmps31]
     repeat' (first | (refine Qr rfl ?_; try intro _ hK; try simp only [go_sem, *]) | refine Qh rfl ?_ | (refine Qc rfl rfl ?_ ?_ <;> (intro hb; have hc := hb; try simp only [go_sem] at hc)) | refine q8 rfl ?_ | ((first | refine y5 (s1) ?_ | refine y5 (sc) ?_); simp only [go_sem, *]) | ((with_reducible apply And.intro); focus omega) | (refine q7 hK ?_; clear hK; simp only [go_sem, *]) | simp only [q6, z8, go_sem, *])
     all_goals try contradiction
     (refine ⟨[_, _], [], [], ⟨rfl, rfl, trivial⟩, ?_⟩; simp only [go_sem, *])
 ·rw [if_neg q] at s1
  rw [if_neg q, if_neg q]
  generalize j4 l n = e at *
  refine q9 func31 rfl (fun E hE => ?_); simp only [go_sem, ntmps31]
  repeat' (first | (refine Qr rfl ?_; try intro _ hK; try simp only [go_sem, *]) | refine Qh rfl ?_ | (refine Qc rfl rfl ?_ ?_ <;> (intro hb; have hc := hb; try simp only [go_sem] at hc)) | refine q8 rfl ?_ | (refine y5 (s1) ?_; simp only [go_sem, *]) | ((with_reducible apply And.intro); focus omega) | (refine q7 hK ?_; clear hK; simp only [go_sem, *]) | simp only [q6, z8, go_sem, *])
  all_goals try contradiction
  (refine ⟨[_, _], [], [], ⟨rfl, rfl, trivial⟩, ?_⟩; simp only [go_sem, *])
end Go.Abs

namespace Go.Abs
open Go Go.Proofs Tryz
attribute [local irreducible] y4 Hold y9
theorem zMz : zNF prog 22 [] [] (bV true) [] := by
 have s1 := zCt zN0
 rw [zJL, if_pos rfl, zJO] at s1
 have s2 := zH9 [K9, zN0, G5, zOI] zJP
 rw [zJS] at s2
 have s3 := zIi
 have s4 := zHn rulesX Y1 Z1 (by decide) (by decide)
 have e4 : R9 rulesX Y1 Z1 = some [Y1, J0, Z1] := by unfold R9; rw [if_pos zDR, zDQ]
 have e5 : e8 rulesX Y1 Z1 = 0 := by unfold e8; rw [if_pos zDR, zDQ]; rfl
 rw [e4, e5] at s4
 have s5 := zIj
 have s6 := zH7 smithsX 0 (by decide)
 rw [zJQ, zJR] at s6
 have s7 := zHy smithsX 0 4 (by decide)
 rw [zJM, zJN] at s7
 have s8 := zHw [2, 3, 0, 1] [2, 3, 0, 1] (by decide)
 rw [decide_eq_true rfl] at s8
 have s9 := zHx [Y1, J0, Z1] [Y1, J0, Z1] (by decide)
 rw [decide_eq_true rfl] at s9
 clear e4 e5
 simp only [y7, T1, w8, zEA, rulesX, smithsX, zN0, K9, G5, zOI, Y1, J0, Z1, zAG, zOT, Rule.enc, List.map_cons, List.map_nil, List.length_cons, List.length_nil] at s1 s2 s3 s4 s5 s6 s7 s8 s9
 refine q9 func22 rfl (fun E hE => ?_); simp only [go_sem, ntmps22]
 repeat' (first | (refine Qr rfl ?_; try intro _ hK; try simp only [go_sem, *]) | (refine Qi rfl rfl rfl rfl ?_ ?_ <;> (intro hb; (try intro _ hK); have hc := hb; try simp only [go_sem] at hc; simp only [go_sem, *])) | refine Qh rfl ?_ | (refine Qc rfl rfl ?_ ?_ <;> (intro hb; have hc := hb; try simp only [go_sem] at hc)) | refine q8 rfl ?_ | (refine y5 (s1) ?_; simp only [go_sem, *]) | (refine j1 (s3) ?_; simp only [go_sem, *]) | (refine j1 (s5) ?_; simp only [go_sem, *]) | ((with_reducible apply And.intro); focus omega) | (refine q7 hK ?_; clear hK; simp only [go_sem, *]) | simp only [q6, z8, go_sem, *])
 refine Q4 [] [0] s2 rfl (by simp only [go_sem]) (by simp) ?_ ?_ (by simp [go_sem]) (by simp [go_sem]) ?_
 ·simp only [go_sem, *]
 ·simp only [go_sem, *]
 simp only [go_sem, u6, *]
 repeat' (first | (refine Qr rfl ?_; try intro _ hK; try simp only [go_sem, *]) | (refine Qi rfl rfl rfl rfl ?_ ?_ <;> (intro hb; (try intro _ hK); have hc := hb; try simp only [go_sem] at hc; simp only [go_sem, *])) | refine Qh rfl ?_ | (refine Qc rfl rfl ?_ ?_ <;> (intro hb; have hc := hb; try simp only [go_sem] at hc)) | refine q8 rfl ?_ | (refine y5 (s1) ?_; simp only [go_sem, *]) | (refine j1 (s3) ?_; simp only [go_sem, *]) | (refine j1 (s5) ?_; simp only [go_sem, *]) | ((with_reducible apply And.intro); focus omega) | (refine q7 hK ?_; clear hK; simp only [go_sem, *]) | simp only [q6, z8, go_sem, *])
 refine Q4 [] [2] s4 rfl (by simp only [go_sem]) (by simp) ?_ ?_ (by simp [go_sem]) (by simp [go_sem]) ?_
 ·simp only [go_sem, *]
 ·simp only [go_sem, *]
 simp only [go_sem, u6, *]
 repeat' (first | (refine Qr rfl ?_; try intro _ hK; try simp only [go_sem, *]) | (refine Qi rfl rfl rfl rfl ?_ ?_ <;> (intro hb; (try intro _ hK); have hc := hb; try simp only [go_sem] at hc; simp only [go_sem, *])) | refine Qh rfl ?_ | (refine Qc rfl rfl ?_ ?_ <;> (intro hb; have hc := hb; try simp only [go_sem] at hc)) | refine q8 rfl ?_ | (refine y5 (s1) ?_; simp only [go_sem, *]) | (refine j1 (s3) ?_; simp only [go_sem, *]) | (refine j1 (s5) ?_; simp only [go_sem, *]) | ((with_reducible apply And.intro); focus omega) | (refine q7 hK ?_; clear hK; simp only [go_sem, *]) | simp only [q6, z8, go_sem, *])
 refine Q4 [] [3] s6 rfl (by simp only [go_sem]) (by simp) ?_ ?_ (by simp [go_sem]) (by simp [go_sem]) ?_
 ·simp only [go_sem, *]
 ·simp only [go_sem, *]
 simp only [go_sem, u6, *]
 repeat' (first | (refine Qr rfl ?_; try intro _ hK; try simp only [go_sem, *]) | (refine Qi rfl rfl rfl rfl ?_ ?_ <;> (intro hb; (try intro _ hK); have hc := hb; try simp only [go_sem] at hc; simp only [go_sem, *])) | refine Qh rfl ?_ | (refine Qc rfl rfl ?_ ?_ <;> (intro hb; have hc := hb; try simp only [go_sem] at hc)) | refine q8 rfl ?_ | (refine y5 (s1) ?_; simp only [go_sem, *]) | (refine j1 (s3) ?_; simp only [go_sem, *]) | (refine j1 (s5) ?_; simp only [go_sem, *]) | ((with_reducible apply And.intro); focus omega) | (refine q7 hK ?_; clear hK; simp only [go_sem, *]) | simp only [q6, z8, go_sem, *])
 refine Q4 [] [4] s7 rfl (by simp only [go_sem]) (by simp) ?_ ?_ (by simp [go_sem]) (by simp [go_sem]) ?_
 ·simp only [go_sem, *]
 ·simp only [go_sem, *]
 simp only [go_sem, u6, *]
 repeat' (first | (refine Qr rfl ?_; try intro _ hK; try simp only [go_sem, *]) | (refine Qi rfl rfl rfl rfl ?_ ?_ <;> (intro hb; (try intro _ hK); have hc := hb; try simp only [go_sem] at hc; simp only [go_sem, *])) | refine Qh rfl ?_ | (refine Qc rfl rfl ?_ ?_ <;> (intro hb; have hc := hb; try simp only [go_sem] at hc)) | refine q8 rfl ?_ | (refine y5 (s1) ?_; simp only [go_sem, *]) | (refine j1 (s3) ?_; simp only [go_sem, *]) | (refine j1 (s5) ?_; simp only [go_sem, *]) | ((with_reducible apply And.intro); focus omega) | (refine q7 hK ?_; clear hK; simp only [go_sem, *]) | simp only [q6, z8, go_sem, *])
 refine Q4 [] [1, 5] s8 rfl (by simp only [go_sem]) (by simp) ?_ ?_ (by simp [go_sem]) (by simp [go_sem]) ?_
 ·simp only [go_sem, *]; rfl
 ·simp only [go_sem, *]
 simp only [go_sem, u6, *]
 repeat' (first | (refine Qr rfl ?_; try intro _ hK; try simp only [go_sem, *]) | (refine Qi rfl rfl rfl rfl ?_ ?_ <;> (intro hb; (try intro _ hK); have hc := hb; try simp only [go_sem] at hc; simp only [go_sem, *])) | refine Qh rfl ?_ | (refine Qc rfl rfl ?_ ?_ <;> (intro hb; have hc := hb; try simp only [go_sem] at hc)) | refine q8 rfl ?_ | ((with_reducible apply And.intro); focus omega) | (refine q7 hK ?_; clear hK; simp only [go_sem, *]) | simp only [q6, z8, go_sem, *])
 refine Q4 [] [6] s9 rfl (by simp only [go_sem]) (by simp) ?_ ?_ (by simp [go_sem]) (by simp [go_sem]) ?_
 ·simp only [go_sem, *]
 ·simp only [go_sem, *]
 simp only [go_sem, u6, *]
 repeat' (first | (refine Qr rfl ?_; try intro _ hK; try simp only [go_sem, *]) | (refine Qi rfl rfl rfl rfl ?_ ?_ <;> (intro hb; (try intro _ hK); have hc := hb; try simp only [go_sem] at hc; simp only [go_sem, *])) | refine Qh rfl ?_ | (refine Qc rfl rfl ?_ ?_ <;> (intro hb; have hc := hb; try simp only [go_sem] at hc)) | refine q8 rfl ?_ | ((with_reducible apply And.intro); focus omega) | (refine q7 hK ?_; clear hK; simp only [go_sem, *]) | simp only [q6, z8, go_sem, *])
 (refine ⟨[_], [], [], ⟨rfl, trivial⟩, ?_⟩; simp only [go_sem, *])
end Go.Abs

namespace Go.Abs
open Go Go.Proofs Tryz
attribute [local irreducible] y4 Hold y9
def zL5 (t : Nat) : List UInt8 := ((List.range' (65 + t) (26 - t)).map UInt8.ofNat).filter v7
end Go.Abs

namespace Go.Abs
open Go Go.Proofs Tryz
attribute [local irreducible] y4 Hold y9
theorem zAb (c : UInt8) : zNF prog 93 [.raw (.int .u8 (c.toNat : Int))] [] (bV (y8 c)) [] := by
 have e : y8 c = (decide ((c.toNat : Int) ≥ 97) && decide ((c.toNat : Int) ≤ 122)) := by unfold y8; rw [Bool.eq_iff_iff]; simp; omega
 rw [e]
 clear e
 refine q9 func93 rfl (fun E hE => ?_); simp only [go_sem, ntmps93]
 repeat' (first | (refine Qr rfl ?_; try intro _ hK; try simp only [go_sem, *]) | (refine Qi rfl rfl rfl rfl ?_ ?_ <;> (intro hb; (try intro _ hK); have hc := hb; try simp only [go_sem] at hc; simp only [go_sem, *])) | refine Qh rfl ?_ | (refine Qc rfl rfl ?_ ?_ <;> (intro hb; have hc := hb; try simp only [go_sem] at hc)) | refine q8 rfl ?_ | ((with_reducible apply And.intro); focus omega) | (refine q7 hK ?_; clear hK; simp only [go_sem, *]) | simp only [q6, z8, go_sem, *])
 all_goals (refine ⟨[_], [], [], ⟨rfl, trivial⟩, ?_⟩; simp only [go_sem, *])
 all_goals simp_all
theorem zIb (s : Str) (h : 0 < s.length) : zNF prog 46 [sV s] [] (bV (y8 (s.getD 0 0))) [] := by
 have sl := zAb (s.getD 0 0)
 generalize y8 (s.getD 0 0) = b at *
 refine q9 func46 rfl (fun E hE => ?_); simp only [go_sem, ntmps46]
 repeat' (first | (refine Qr rfl ?_; try intro _ hK; try simp only [go_sem, *]) | refine Qh rfl ?_ | (refine Qc rfl rfl ?_ ?_ <;> (intro hb; have hc := hb; try simp only [go_sem] at hc)) | refine q8 rfl ?_ | (refine y5 (sl) ?_; simp only [go_sem, *]) | ((with_reducible apply And.intro); focus omega) | (refine q7 hK ?_; clear hK; simp only [go_sem, *]) | simp only [q6, z8, go_sem, *])
 (refine ⟨[_], [], [], ⟨rfl, trivial⟩, ?_⟩; simp only [go_sem, *])
end Go.Abs

namespace Go.Abs
open Go Go.Proofs Tryz
attribute [local irreducible] y4 Hold y9
def rrT (s a b : Str) (i : Nat) : Str := s.take i ++ b ++ s.drop (i + a.length)
def zOe (s a b : Str) (i : Nat) : List Str := if (s.take (i + a.length)).drop i = a then (if 1 ≤ (rrT s a b i).length ∧ (rrT s a b i).length ≤ 12 then [rrT s a b i] else []) else []
def zCh (s a b : Str) (i : Nat) : List Str := (List.range' i (s.length + 1 - a.length - i)).flatMap (zOe s a b)
def zLQ (r : List Rule) (s : Str) : List Str := r.flatMap fun x => zCh s x.src x.dst 0 ++ zCh s x.dst x.src 0
end Go.Abs

namespace Go.Abs
open Go
def zMp (l : List Str) : List Str := (S6 l).map fun i => l.getD i default
end Go.Abs

namespace Go.Abs
open Go
def zNY (s p : Str) : Bool := decide (p.length ≤ s.length) && (s.drop (s.length - p.length) == p)
def w4 (s : Str) : Str := s.take (s.length - 1)
def r4 (s : Str) : Bool := zNY s [46] && x7 (w4 s) 1 12
theorem zI5 {s : Str} (h : 0 < s.length) : zNY s [46] = decide (s.getD (s.length - 1) 0 = 46) := by
 unfold zNY
 have h1 : [(46 : UInt8)].length ≤ s.length := h
 rw [decide_eq_true h1, Bool.true_and]
 have h2 : s.length - [(46 : UInt8)].length = s.length - 1 := rfl
 rw [h2, List.drop_eq_getElem_cons (by omega), List.drop_eq_nil_of_le (by omega)]
 have e : s.getD (s.length - 1) 0 = s[s.length - 1] := by
  show (s[s.length - 1]?).getD 0 = _
  rw [List.getElem?_eq_getElem (by omega)]; rfl
 rw [e]
 by_cases q : s[s.length - 1] = 46
 ·rw [q]; rfl
 ·rw [decide_eq_false q]
  simp [q]
theorem E2 {s : Str} (h : r4 s = true) : 1 ≤ (w4 s).length ∧ (w4 s).length ≤ 12 ∧ (w4 s).all y8 = true ∧ s.length = (w4 s).length + 1 := by
 unfold r4 x7 at h
 simp only [Bool.and_eq_true, decide_eq_true_eq] at h
 refine ⟨h.2.1, h.2.2.1, h.2.2.2, ?_⟩
 have h1 := h.2.1
 unfold w4 at h1 ⊢
 rw [List.length_take] at h1 ⊢
 omega
def zMk (s : Str) : Int := if r4 s = true then 0 else 2
def zNk (s x : Str) : Int := if r4 s = true then x4 x else 2
def zNu (s x : Str) : Bool := if zNk s x = 0 then u0 (w4 s) (zNG x) else false
def j9 (k : Str) (l : List Str) (i : Nat) : List Int := (List.range' i (l.length - i)).flatMap fun (i : Nat) => if u0 k (zNG (l.getD i [])) = true then [(i : Int)] else []
def Z4 (s : Str) (l : List Str) : Int := if r4 s = true then u9 l else 2
def zNv (s : Str) (l : List Str) : List Int := j9 (w4 s) l 0
theorem zAe {k : Str} {l : List Str} {i : Nat} (h : i < l.length) : j9 k l i = (if u0 k (zNG (l.getD i default)) = true then [(i : Int)] else []) ++ j9 k l (i + 1) := by
 unfold j9
 rw [show l.length - i = (l.length - (i + 1)) + 1 by omega, List.range'_succ, List.flatMap_cons]
 rfl
theorem zAd {k : Str} {l : List Str} {i : Nat} (h : l.length ≤ i) : j9 k l i = [] := by
 unfold j9
 rw [show l.length - i = 0 by omega]; rfl
theorem zM1 {k : Str} {l : List Str} : ∀ c i, l.length - i = c → (j9 k l i).length ≤ c := by
 intro c
 induction c with
 | zero => intro i h; rw [zAd (by omega)]; simp
 | succ c ih =>
  intro i h
  rw [zAe (by omega), List.length_append]
  have := ih (i + 1) (by omega)
  split <;> simp <;> omega
theorem mem_std {k : Str} {l : List Str} {z : Int} : z ∈ j9 k l 0 ↔ ∃ i : Nat, z = i ∧ i < l.length ∧ u0 k (zNG (l.getD i default)) = true := by
 unfold j9
 rw [List.mem_flatMap]
 constructor
 ·rintro ⟨i, h1, h2⟩
  have h3 : i < l.length := by have := (List.mem_range'_1.1 h1).2; omega
  by_cases q : u0 k (zNG (l.getD i default)) = true
  ·have h2 : z ∈ (if u0 k (zNG (l.getD i default)) = true then [(i : Int)] else []) := h2
   rw [if_pos q] at h2
   exact ⟨i, List.mem_singleton.1 h2, h3, q⟩
  ·have h2 : z ∈ (if u0 k (zNG (l.getD i default)) = true then [(i : Int)] else []) := h2
   rw [if_neg q] at h2
   cases h2
 ·rintro ⟨i, rfl, h2, h3⟩
  refine ⟨i, List.mem_range'_1.2 ⟨by omega, by omega⟩, ?_⟩
  show (i : Int) ∈ (if u0 k (zNG (l.getD i default)) = true then [(i : Int)] else [])
  rw [if_pos h3]; simp
end Go.Abs

namespace Go.Abs
open Go Go.Proofs Go.RowKit
attribute [local irreducible] y4 Hold y9
theorem zH1 (s p : Str) (h1 : s.length ≤ 4294967296) (h2 : p.length ≤ 4294967296) : zNF Tryz.prog 193 [sV s, sV p] [] (bV (zNY s p)) [] := by
 unfold zNY
 by_cases q : p.length ≤ s.length
 ·have qi : (s.length : Int) ≥ (p.length : Int) := by omega
  have hw : IntKind.i64.wrap ((s.length : Int) - (p.length : Int)) = ((s.length - p.length : Nat) : Int) := by rw [wrap_i64 (by omega) (by omega)]; omega
  rw [decide_eq_true q, Bool.true_and]
  have hd : s.length - p.length ≤ s.length := by omega
  generalize s.length - p.length = d at *
  generalize hb : (s.drop d == p) = b at *
  refine q9 Tryz.func193 rfl (fun E hE => ?_); simp only [go_sem, Tryz.ntmps193]
  repeat' (first | (refine Qr rfl ?_; try intro _ hK; try simp only [go_sem, *]) | (refine Qi rfl rfl rfl rfl ?_ ?_ <;> (intro hb; (try intro _ hK); have hc := hb; try simp only [go_sem] at hc; simp only [go_sem, *])) | refine Qh rfl ?_ | (refine Qc rfl rfl ?_ ?_ <;> (intro hb; have hc := hb; try simp only [go_sem] at hc)) | refine q8 rfl ?_ | ((with_reducible apply And.intro); focus omega) | (refine q7 hK ?_; clear hK; simp only [go_sem, *]) | simp only [q6, z8, go_sem, *])
  all_goals first | contradiction | omega | skip
  (refine ⟨[_], [], [], ⟨rfl, trivial⟩, ?_⟩; simp only [go_sem, *])
 ·have qi : ¬ (s.length : Int) ≥ (p.length : Int) := by omega
  rw [decide_eq_false q, Bool.false_and]
  refine q9 Tryz.func193 rfl (fun E hE => ?_); simp only [go_sem, Tryz.ntmps193]
  repeat' (first | (refine Qr rfl ?_; try intro _ hK; try simp only [go_sem, *]) | (refine Qi rfl rfl rfl rfl ?_ ?_ <;> (intro hb; (try intro _ hK); have hc := hb; try simp only [go_sem] at hc; simp only [go_sem, *])) | refine Qh rfl ?_ | (refine Qc rfl rfl ?_ ?_ <;> (intro hb; have hc := hb; try simp only [go_sem] at hc)) | refine q8 rfl ?_ | ((with_reducible apply And.intro); focus omega) | (refine q7 hK ?_; clear hK; simp only [go_sem, *]) | simp only [q6, z8, go_sem, *])
  all_goals first | contradiction | omega | skip
  (refine ⟨[_], [], [], ⟨rfl, trivial⟩, ?_⟩; simp only [go_sem, *])
theorem zHv (s p : Str) (h1 : s.length ≤ 4294967296) (h2 : p.length ≤ 4294967296) :
  zNF Tryz.prog 178 [sV s, sV p] [] (.tup [sV (if zNY s p = true then s.take (s.length - p.length) else s), bV (zNY s p)]) [] := by
 have sh := zH1 s p h1 h2
 cases q : zNY s p
 ·rw [q] at sh
  rw [if_neg (by decide)]
  clear q
  refine q9 Tryz.func178 rfl (fun E hE => ?_); simp only [go_sem, Tryz.ntmps178]
  repeat' (first | (refine Qr rfl ?_; try intro _ hK; try simp only [go_sem, *]) | refine Qh rfl ?_ | (refine Qc rfl rfl ?_ ?_ <;> (intro hb; have hc := hb; try simp only [go_sem] at hc)) | refine q8 rfl ?_ | (refine y5 (sh) ?_; simp only [go_sem, *]) | ((with_reducible apply And.intro); focus omega) | (refine q7 hK ?_; clear hK; simp only [go_sem, *]) | simp only [q6, z8, go_sem, *])
  all_goals first | contradiction | omega | skip
  (refine ⟨[_, _], [], [], ⟨rfl, rfl, trivial⟩, ?_⟩; simp only [go_sem, *])
 ·rw [q] at sh
  rw [if_pos rfl]
  have hl : p.length ≤ s.length := by
   unfold zNY at q
   rw [Bool.and_eq_true, decide_eq_true_eq] at q
   exact q.1
  have hw : IntKind.i64.wrap ((s.length : Int) - (p.length : Int)) = ((s.length - p.length : Nat) : Int) := by rw [wrap_i64 (by omega) (by omega)]; omega
  have hd : s.length - p.length ≤ s.length := by omega
  generalize s.length - p.length = d at *
  clear q
  refine q9 Tryz.func178 rfl (fun E hE => ?_); simp only [go_sem, Tryz.ntmps178]
  repeat' (first | (refine Qr rfl ?_; try intro _ hK; try simp only [go_sem, *]) | refine Qh rfl ?_ | (refine Qc rfl rfl ?_ ?_ <;> (intro hb; have hc := hb; try simp only [go_sem] at hc)) | refine q8 rfl ?_ | (refine y5 (sh) ?_; simp only [go_sem, *]) | ((with_reducible apply And.intro); focus omega) | (refine q7 hK ?_; clear hK; simp only [go_sem, *]) | simp only [q6, z8, go_sem, *])
  all_goals first | contradiction | omega | skip
  (refine ⟨[_, _], [], [], ⟨rfl, rfl, trivial⟩, ?_⟩; simp only [go_sem, *])
theorem zHu (s p : Str) (h1 : s.length ≤ 4294967296) (h2 : p.length ≤ 4294967296) :
  zNF Tryz.prog 156 [sV s, sV p] [] (.tup [sV (if zNY s p = true then s.take (s.length - p.length) else s), bV (zNY s p)]) [] := by
 have sh := zHv s p h1 h2
 generalize (if zNY s p = true then s.take (s.length - p.length) else s) = t at *
 generalize zNY s p = b at *
 refine q9 Tryz.func156 rfl (fun E hE => ?_); simp only [go_sem, Tryz.ntmps156]
 repeat' (first | (refine Qr rfl ?_; try intro _ hK; try simp only [go_sem, *]) | refine Qh rfl ?_ | (refine Qc rfl rfl ?_ ?_ <;> (intro hb; have hc := hb; try simp only [go_sem] at hc)) | refine q8 rfl ?_ | (refine y5 (sh) ?_; simp only [go_sem, *]) | ((with_reducible apply And.intro); focus omega) | (refine q7 hK ?_; clear hK; simp only [go_sem, *]) | simp only [q6, z8, go_sem, *])
 (refine ⟨[_, _], [], [], ⟨rfl, rfl, trivial⟩, ?_⟩; simp only [go_sem, *])
theorem zHt (s : Str) (h : s.length ≤ 4294967296) : zNF Tryz.prog 156 [sV s, sV [46]] [] (.tup [sV (if zNY s [46] = true then w4 s else s), bV (zNY s [46])]) [] := zHu s [46] h (by simp)
theorem zB6 {w w' : World} (h : Z7 w) (hb : Below w.heap.size w w') : Z7 w' := fun p hp => by
 have hc := h p hp
 have hlt : p.1 < w.heap.size := by
  rcases Nat.lt_or_ge p.1 w.heap.size with k | k
  ·exact k
  ·simp [World.cell?, Array.getElem?_eq_none k] at hc
 exact (hb.cell (p := ⟨p.1, 0, none⟩) hlt).trans hc
abbrev bs (s : Str) : ByteArray := ⟨s.toArray⟩
theorem zGv (s : Str) (hs : s.length ≤ 4294967296) (w : World) (hL : Z7 w) : Calls Tryz.prog 134 #[.string (bs s)] w fun e w' =>
  e = .returned (.tuple #[.string (bs (if r4 s = true then w4 s else [])), if r4 s = true then .nilIface else .iface 150 (.string (bs s))]) ∧ Below w.heap.size w w' := by
 have c1 := @zEP Tryz.prog 156 [.string (bs s), .string (bs [46])] rfl _ _ (zHt s hs)
 have c2 := fun t (ht : t.length ≤ 4294967296) (w : World) (h : Z7 w) => @zEO Tryz.prog 123 [.string (bs t), .int .i64 1, .int .i64 12] rfl _ (E5 t 1 12 ht) w h
 unfold r4
 cases q : zNY s [46] with
 | false =>
  rw [q, if_neg (by decide)] at c1
  rw [Bool.false_and]
  go_enter Tryz.func134, Tryz.ntmps134
  go_wp2_with (first | (go_at_call 156; refine (c1 hL).mono ?_; rintro e w' ⟨rfl, hb⟩))
  go_ret2
  exact ⟨rfl, by assumption⟩
 | true =>
  rw [q] at c1
  have c3 := c2 (w4 s) (by unfold w4; simp; omega)
  rw [if_pos rfl] at c1
  rw [Bool.true_and]
  cases q2 : x7 (w4 s) 1 12 with
  | false =>
   rw [q2] at c3
   go_enter Tryz.func134, Tryz.ntmps134
   go_wp2_with (first | (go_at_call 156; refine (c1 hL).mono ?_; rintro e w1 ⟨rfl, hb1⟩) | (go_at_call 123; refine (c3 _ (zB6 hL (by assumption))).mono ?_; rintro e w2 ⟨rfl, hb2⟩))
   go_ret2
   exact ⟨rfl, Below.trans (by assumption) (Below.mono (by assumption) (Below.size (by assumption)))⟩
  | true =>
   rw [q2] at c3
   go_enter Tryz.func134, Tryz.ntmps134
   go_wp2_with (first | (go_at_call 156; refine (c1 hL).mono ?_; rintro e w1 ⟨rfl, hb1⟩) | (go_at_call 123; refine (c3 _ (zB6 hL (by assumption))).mono ?_; rintro e w2 ⟨rfl, hb2⟩))
   go_ret2
   exact ⟨rfl, Below.trans (by assumption) (Below.mono (by assumption) (Below.size (by assumption)))⟩
theorem zDp (b : ByteArray) (w : World) (hg : w.cell? ⟨0, 0, none⟩ = some (.iface 194 (.agg #[hdl 147]))) :
  Calls Tryz.prog 135 #[.iface 150 (.string b), .iface 152 (.pointer (some ⟨w.heap.size, 0, none⟩))] (w.alloc (.cells #[.string ⟨#[]⟩] 150)) fun e w' => e = .returned (.bool true) ∧ Below w.heap.size w w' := by
 have hlt : 0 < w.heap.size := by
  rcases Nat.eq_zero_or_pos w.heap.size with h0 | h
  ·simp [World.cell?, h0] at hg
  ·exact h
 refine (zDo b ⟨w.heap.size, 0, none⟩ (.string ⟨#[]⟩) _ ?_ (by simp) (by simp)).mono ?_
 ·rw [World.cell?_alloc_lt _ _ ⟨0, 0, none⟩ hlt]; exact hg
 ·rintro e w' ⟨rfl, rfl⟩
  refine ⟨rfl, Below.setCell (Below.alloc (Below.alloc (Below.alloc (Below.alloc (Below.alloc (Below.refl _ _) ?_ _) ?_ _) ?_ _) ?_ _) ?_ _) ?_ _⟩
  all_goals simp
  all_goals omega
theorem zDb (s : Str) (hs : s.length ≤ 4294967296) (w : World) (hL : Z7 w) (hg : w.cell? ⟨0, 0, none⟩ = some (.iface 194 (.agg #[hdl 147]))) : Calls Tryz.prog 110 #[.string (bs s)] w fun e w' =>
  e = .returned (.tuple #[.string (bs (if r4 s = true then w4 s else [])), .int .i64 (if r4 s = true then 0 else 2)]) ∧ Below w.heap.size w w' := by
 have hp := zGv s hs w hL
 have hlt : 0 < w.heap.size := by
  rcases Nat.eq_zero_or_pos w.heap.size with h0 | h
  ·simp [World.cell?, h0] at hg
  ·exact h
 cases q : r4 s with
 | true =>
  rw [q, if_pos rfl, if_pos rfl] at hp
  rw [if_pos rfl, if_pos rfl]
  go_enter Tryz.func110, Tryz.ntmps110
  go_wp2_with (first | (go_at_call 134; refine hp.mono ?_; rintro e w1 ⟨rfl, hb1⟩) | (go_at_call 135; refine (zDz _ _).mono ?_; rintro e w' ⟨rfl, rfl⟩))
  go_ret2
  exact ⟨rfl, Below.alloc (by assumption) (Below.size (by assumption)) _⟩
 | false =>
  rw [q, if_neg (by decide), if_neg (by decide)] at hp
  rw [if_neg (by decide), if_neg (by decide)]
  go_enter Tryz.func110, Tryz.ntmps110
  go_wp2_with (first | (go_at_call 134; refine hp.mono ?_; rintro e w1 ⟨rfl, hb1⟩; have hg1 := (hb1.cell (p := ⟨0, 0, none⟩) hlt).trans hg) | (go_at_call 135; refine (zDp _ _ (by assumption)).mono ?_; rintro e w' ⟨rfl, hb2⟩))
  go_ret2
  exact ⟨rfl, Below.trans (by assumption) (Below.mono (by assumption) (Below.size (by assumption)))⟩
end Go.Abs

namespace Go.Abs
open Go Go.Proofs Tryz
attribute [local irreducible] y4 Hold y9
theorem zB1 {s : Str} (v : ValidN s) : 1 ≤ (zNG s).length ∧ (zNG s).length ≤ 12 ∧ (zNG s).all y8 = true := by
 have h := K1 v
 unfold x7 at h
 simp only [Bool.and_eq_true, decide_eq_true_eq] at h
 exact ⟨h.1, h.2.1, h.2.2⟩
theorem zAW (s : Str) (hs : s.length ≤ 4294967296) : zNF prog 110 [sV s] [] (.tup [sV (if r4 s = true then w4 s else []), iV (if r4 s = true then 0 else 2)]) [] :=
 zIr (fun h => h) [.string (bs s)] (.string (bs (if r4 s = true then w4 s else []))) (.int .i64 (if r4 s = true then 0 else 2)) rfl rfl (fun w hl => zDb s hs w hl (hl (0, _) (List.mem_singleton.2 rfl)))
theorem zMs (s x : Str) (hs : s.length ≤ 4294967296) : zNF prog 70 [sV s, sV x] [] (.tup [bV (zNu s x), iV (zNk s x)]) [] := by
 have s1 := zAW s hs
 have s2 := zAT x
 cases q : r4 s with
 | false =>
  rw [q, if_neg (by decide), if_neg (by decide)] at s1
  have e1 : zNk s x = 2 := by unfold zNk; rw [q]; rfl
  have e2 : zNu s x = false := by unfold zNu; rw [e1]; rfl
  rw [e1, e2]
  clear e1 e2
  clear q
  refine q9 func70 rfl (fun E hE => ?_); simp only [go_sem, ntmps70]
  repeat' (first | (refine Qr rfl ?_; try intro _ hK; try simp only [go_sem, *]) | refine Qh rfl ?_ | (refine Qc rfl rfl ?_ ?_ <;> (intro hb; have hc := hb; try simp only [go_sem] at hc)) | refine q8 rfl ?_ | (refine x5 (s1) ?_ ?_; (focus (simp only [go_sem, *]; done)); simp only [go_sem, *]) | ((with_reducible apply And.intro); focus omega) | (refine q7 hK ?_; clear hK; simp only [go_sem, *]) | simp only [q6, z8, go_sem, *])
  all_goals try contradiction
  (refine ⟨[_, _], [], [], ⟨rfl, rfl, trivial⟩, ?_⟩; simp only [go_sem, *])
 | true =>
  rw [q, if_pos rfl, if_pos rfl] at s1
  have e1 : zNk s x = x4 x := by unfold zNk; rw [q]; rfl
  unfold zNu
  rw [e1]
  clear e1
  obtain ⟨k1, k2, k3, k4⟩ := E2 q
  by_cases q2 : x4 x = 0
  ·have v := checkN_zero.1 q2
   obtain ⟨g1, g2, g3⟩ := zB1 v
   have s3 := X8 x v.form (by have := v.len; omega)
   have s4 := zAc (w4 s) (zNG x) k1 (by omega) g3 (by omega)
   rw [q2] at s2
   rw [q2, if_pos rfl]
   generalize zNG x = y at *
   generalize w4 s = t at *
   generalize u0 t y = b at *
   clear q q2 v g3 k3
   refine q9 func70 rfl (fun E hE => ?_); simp only [go_sem, ntmps70]
   repeat' (first | (refine Qr rfl ?_; try intro _ hK; try simp only [go_sem, *]) | refine Qh rfl ?_ | (refine Qc rfl rfl ?_ ?_ <;> (intro hb; have hc := hb; try simp only [go_sem] at hc)) | refine q8 rfl ?_ | (refine x5 (s1) ?_ ?_; (focus (simp only [go_sem, *]; done)); simp only [go_sem, *]) | (refine x5 (s2) ?_ ?_; (focus (simp only [go_sem, *]; done)); simp only [go_sem, *]) | (refine x5 (s3) ?_ ?_; (focus (simp only [go_sem, *]; done)); simp only [go_sem, *]) | (refine x5 (s4) ?_ ?_; (focus (simp only [go_sem, *]; done)); simp only [go_sem, *]) | ((with_reducible apply And.intro); focus omega) | (refine q7 hK ?_; clear hK; simp only [go_sem, *]) | simp only [q6, z8, go_sem, *])
   all_goals try contradiction
   (refine ⟨[_, _], [], [], ⟨rfl, rfl, trivial⟩, ?_⟩; simp only [go_sem, *])
  ·rw [if_neg q2]
   generalize x4 x = e at *
   generalize w4 s = t at *
   clear q k3
   refine q9 func70 rfl (fun E hE => ?_); simp only [go_sem, ntmps70]
   repeat' (first | (refine Qr rfl ?_; try intro _ hK; try simp only [go_sem, *]) | refine Qh rfl ?_ | (refine Qc rfl rfl ?_ ?_ <;> (intro hb; have hc := hb; try simp only [go_sem] at hc)) | refine q8 rfl ?_ | (refine x5 (s1) ?_ ?_; (focus (simp only [go_sem, *]; done)); simp only [go_sem, *]) | (refine x5 (s2) ?_ ?_; (focus (simp only [go_sem, *]; done)); simp only [go_sem, *]) | ((with_reducible apply And.intro); focus omega) | (refine q7 hK ?_; clear hK; simp only [go_sem, *]) | simp only [q6, z8, go_sem, *])
   all_goals try contradiction
   (refine ⟨[_, _], [], [], ⟨rfl, rfl, trivial⟩, ?_⟩; simp only [go_sem, *])
theorem zMt (s : Str) (l : List Str) (hs : s.length ≤ 4294967296) (hl : l.length ≤ 4294967296) (q : ¬ Z4 s l = 0) : zNF prog 72 [sV s, y7 l] [] (.tup [.raw (.slice none 0 0), iV (Z4 s l)]) [] := by
 have s1 := zAW s hs
 have s2 := E6 l hl
 unfold Z4 at q ⊢
 cases q1 : r4 s with
 | false =>
  rw [q1, if_neg (by decide), if_neg (by decide)] at s1
  rw [if_neg (by decide)]
  clear q q1
  refine q9 func72 rfl (fun E hE => ?_); simp only [go_sem, ntmps72]
  repeat' (first | (refine Qr rfl ?_; try intro _ hK; try simp only [go_sem, *]) | refine Qh rfl ?_ | (refine Qc rfl rfl ?_ ?_ <;> (intro hb; have hc := hb; try simp only [go_sem] at hc)) | refine q8 rfl ?_ | (refine x5 (s1) ?_ ?_; (focus (simp only [go_sem, *]; done)); simp only [go_sem, *]) | ((with_reducible apply And.intro); focus omega) | (refine q7 hK ?_; clear hK; simp only [go_sem, *]) | simp only [q6, z8, go_sem, *])
  all_goals try contradiction
  (refine ⟨[_, _], [], [], ⟨rfl, rfl, trivial⟩, ?_⟩; simp only [go_sem, *])
 | true =>
  rw [q1, if_pos rfl, if_pos rfl] at s1
  rw [q1, if_pos rfl] at q
  rw [if_pos rfl]
  generalize u9 l = e at *
  generalize w4 s = t at *
  clear q1
  refine q9 func72 rfl (fun E hE => ?_); simp only [go_sem, ntmps72]
  repeat' (first | (refine Qr rfl ?_; try intro _ hK; try simp only [go_sem, *]) | refine Qh rfl ?_ | (refine Qc rfl rfl ?_ ?_ <;> (intro hb; have hc := hb; try simp only [go_sem] at hc)) | refine q8 rfl ?_ | (refine x5 (s1) ?_ ?_; (focus (simp only [go_sem, *]; done)); simp only [go_sem, *]) | (refine x5 (s2) ?_ ?_; (focus (simp only [go_sem, *]; done)); simp only [go_sem, *]) | ((with_reducible apply And.intro); focus omega) | (refine q7 hK ?_; clear hK; simp only [go_sem, *]) | simp only [q6, z8, go_sem, *])
  all_goals try contradiction
  (refine ⟨[_, _], [], [], ⟨rfl, rfl, trivial⟩, ?_⟩; simp only [go_sem, *])
theorem zMu (s : Str) (l : List Str) (q : Z4 s l = 0) : zNF prog 72 [sV s, y7 l] [] (.tup [.own 0 1 0 (zNv s l).length, iV 0]) [.row 1 ((zNv s l).map iV)] := by
 have q1 : r4 s = true := by
  cases h : r4 s with
  | true => rfl
  | false => unfold Z4 at q; rw [h, if_neg (by decide)] at q; cases q
 have q2 : u9 l = 0 := by unfold Z4 at q; rwa [q1, if_pos rfl] at q
 obtain ⟨k1, k2, k3, k4⟩ := E2 q1
 have hv := K4 q2
 have h6 := G4 q2
 have s1 := zAW s (by omega)
 have s2 := E6 l (by omega)
 have hks := fun i (hi : i < l.length) => zB1 (hv _ (o7 hi))
 have s3 := fun i (hi : i < l.length) => X8 (l.getD i default) (hv _ (o7 hi)).form (by have := (hv _ (o7 hi)).len; omega)
 have s4 := fun i (hi : i < l.length) => zAc (w4 s) (zNG (l.getD i default)) k1 (by omega) (hks i hi).2.2 (by have := hks i hi; omega)
 rw [q1, if_pos rfl, if_pos rfl] at s1
 rw [q2] at s2
 have h0 : [] ++ j9 (w4 s) l 0 = zNv s l := rfl
 generalize zNv s l = T at *
 generalize w4 s = k at *
 have hca : t7 prog 111 = true := by kernel_rfl
 clear q q1 q2 k3 k4 hks hv
 refine q9 func72 rfl (fun E hE => ?_); simp only [go_sem, ntmps72]
 repeat' (first | ((refine zHP (v := .string (bs k)) 1 rfl rfl rfl rfl ?_; simp only [List.take_succ_cons, List.take_zero, List.drop_succ_cons, List.drop_zero])) | (refine Qr rfl ?_; try intro _ hK; try simp only [go_sem, *]) | refine Qh rfl ?_ | (refine Qc rfl rfl ?_ ?_ <;> (intro hb; have hc := hb; try simp only [go_sem] at hc)) | refine q8 rfl ?_ | (refine x5 (s1) ?_ ?_; (focus (simp only [go_sem, *]; done)); simp only [go_sem, *]) | (refine x5 (s2) ?_ ?_; (focus (simp only [go_sem, *]; done)); simp only [go_sem, *]) | ((with_reducible apply And.intro); focus omega) | (refine q7 hK ?_; clear hK; simp only [go_sem, *]) | simp only [q6, z8, go_sem, *])
 all_goals try contradiction
 refine c7 rfl (l.length) (fun i (xs : List Int) => xs ++ j9 k l i = T ∧ xs.length ≤ i) 45 (fun i xs => [(30, iV i), (29, iV l.length), (28, y7 l), (10, .own 0 1 0 xs.length), (9, M5 111 (.string (bs k)))]) (fun i xs => [.row 1 (xs.map iV)]) [none] [] ([]) (by exact ⟨h0, by simp⟩) ?_; intro i xs hi hP
 clear h0 s1 s2
 obtain ⟨hP, hx⟩ := hP
 have hwi : IntKind.i64.wrap ((i : Int) + 1) = ((i + 1 : Nat) : Int) := t6 (by omega)
 by_cases hi2 : i < l.length
 ·have hii : (i : Int) < (l.length : Int) := by omega
  rw [zAe hi2] at hP
  have t3 := s3 i hi2
  have t4 := s4 i hi2
  clear s3 s4
  generalize hye : l.getD i default = y at *
  generalize zNG y = ky at *
  cases hb2 : u0 k ky with
  | true =>
   rw [hb2] at t4
   rw [hb2, if_pos rfl] at hP
   have hP : (xs ++ [(i : Int)]) ++ j9 k l (i + 1) = T := by rw [← hP]; simp
   clear hb2
   repeat' (first | ((refine zCp (v := .string (bs k)) 3 rfl rfl rfl hca rfl rfl ?_; simp only [List.take_succ_cons, List.take_zero, List.drop_succ_cons, List.drop_zero])) | (refine Qr rfl ?_; try intro _ hK; try simp only [go_sem, *]) | refine Qh rfl ?_ | (refine Qc rfl rfl ?_ ?_ <;> (intro hb; have hc := hb; try simp only [go_sem] at hc)) | refine q8 rfl ?_ | (refine x5 (t3) ?_ ?_; (focus (simp only [go_sem, *]; done)); simp only [go_sem, *]) | ((with_reducible apply And.intro); focus omega) | (refine q7 hK ?_; clear hK; simp only [go_sem, *]) | simp only [q6, z8, go_sem, *])
   refine D5 () [] [] (zC7 t4) (by simp) (by simp only [go_sem]) trivial (by simp) (.inl rfl) (by simp [go_sem]) (by simp [go_sem]) (fun _ => ?_)
   simp only [go_sem]
   repeat' (first | (refine Qr rfl ?_; try intro _ hK; try simp only [go_sem, *]) | refine Qh rfl ?_ | (refine Qc rfl rfl ?_ ?_ <;> (intro hb; have hc := hb; try simp only [go_sem] at hc)) | refine q8 rfl ?_ | ((with_reducible apply And.intro); focus omega) | (refine q7 hK ?_; clear hK; simp only [go_sem, *]) | simp only [q6, z8, go_sem, *])
   all_goals first | contradiction | omega | skip
   exact p5 (i' := i + 1) [some 2] [] (xs ++ [(i : Int)]) (by exact ⟨hP, by simp; omega⟩)
  | false =>
   rw [hb2] at t4
   rw [hb2, if_neg (by decide)] at hP
   have hP : xs ++ j9 k l (i + 1) = T := hP
   clear hb2
   repeat' (first | ((refine zCp (v := .string (bs k)) 3 rfl rfl rfl hca rfl rfl ?_; simp only [List.take_succ_cons, List.take_zero, List.drop_succ_cons, List.drop_zero])) | (refine Qr rfl ?_; try intro _ hK; try simp only [go_sem, *]) | refine Qh rfl ?_ | (refine Qc rfl rfl ?_ ?_ <;> (intro hb; have hc := hb; try simp only [go_sem] at hc)) | refine q8 rfl ?_ | (refine x5 (t3) ?_ ?_; (focus (simp only [go_sem, *]; done)); simp only [go_sem, *]) | ((with_reducible apply And.intro); focus omega) | (refine q7 hK ?_; clear hK; simp only [go_sem, *]) | simp only [q6, z8, go_sem, *])
   refine D5 () [] [] (zC7 t4) (by simp) (by simp only [go_sem]) trivial (by simp) (.inl rfl) (by simp [go_sem]) (by simp [go_sem]) (fun _ => ?_)
   simp only [go_sem]
   repeat' (first | (refine Qr rfl ?_; try intro _ hK; try simp only [go_sem, *]) | refine Qh rfl ?_ | (refine Qc rfl rfl ?_ ?_ <;> (intro hb; have hc := hb; try simp only [go_sem] at hc)) | refine q8 rfl ?_ | ((with_reducible apply And.intro); focus omega) | (refine q7 hK ?_; clear hK; simp only [go_sem, *]) | simp only [q6, z8, go_sem, *])
   all_goals first | contradiction | omega | skip
   exact p5 (i' := i + 1) [some 0] [] (xs) (by exact ⟨hP, by omega⟩)
 ·have hii : ¬ (i : Int) < (l.length : Int) := by omega
  rw [zAd (by omega), List.append_nil] at hP
  subst hP
  clear s3 s4
  repeat' (first | (refine Qr rfl ?_; try intro _ hK; try simp only [go_sem, *]) | refine Qh rfl ?_ | (refine Qc rfl rfl ?_ ?_ <;> (intro hb; have hc := hb; try simp only [go_sem] at hc)) | refine q8 rfl ?_ | ((with_reducible apply And.intro); focus omega) | (refine q7 hK ?_; clear hK; simp only [go_sem, *]) | simp only [q6, z8, go_sem, *])
  all_goals first | contradiction | omega | skip
  refine ⟨[_, _], [some 0], [], ⟨rfl, rfl, trivial⟩, ?_⟩
  simp only [go_sem, *]
end Go.Abs

namespace Go.Abs
open Go Go.Proofs Tryz
attribute [local irreducible] y4 Hold y9
def l9 (c : UInt8) : Str := if v7 c = true then w6 c else []
theorem zJJ : ∀ n : Nat, n < 91 → 65 ≤ n → IntKind.u8.wrap ((n : Int) - 65) = ((n - 65 : Nat) : Int) := by decide
theorem zJK : ∀ n : Nat, n < 91 → 65 ≤ n → IntKind.u8.wrap (((n - 65 : Nat) : Int) + 97) = ((n + 32 : Nat) : Int) := by decide
theorem zGb : ((List.range 91).all fun n => decide (n < 65) || (n == 67 || (n == 74 || (n == 88 || (n == 89 || (n == 72 || (n == 81 || (n == 87 || decide (l9 (UInt8.ofNat n) = [UInt8.ofNat (n + 32)]))))))))) = true := by kernel_rfl
theorem zIw (n : Nat) (h : n < 91) (h0 : 65 ≤ n) (h1 : n ≠ 67) (h2 : n ≠ 74) (h3 : n ≠ 88) (h4 : n ≠ 89) (h5 : n ≠ 72) (h6 : n ≠ 81) (h7 : n ≠ 87) : l9 (UInt8.ofNat n) = [UInt8.ofNat (n + 32)] := by
 have := List.all_eq_true.1 zGb n (List.mem_range.2 h)
 simp only [Bool.or_eq_true, decide_eq_true_eq, beq_iff_eq] at this
 rcases this with h | h | h | h | h | h | h | h | h
 ·omega
 ·exact absurd h h1
 ·exact absurd h h2
 ·exact absurd h h3
 ·exact absurd h h4
 ·exact absurd h h5
 ·exact absurd h h6
 ·exact absurd h h7
 ·exact h
theorem zIx : ∀ n : Nat, n < 256 → (n < 65 ∨ 90 < n) → l9 (UInt8.ofNat n) = [] := by decide
theorem zC4 (c : UInt8) : zNF prog 94 [.raw (.int .u8 (c.toNat : Int))] [] (sV (l9 c)) [] := by
 have hc0 := c.toNat_lt
 have e : l9 c = l9 (UInt8.ofNat c.toNat) := by rw [UInt8.ofNat_toNat]
 rw [e]
 clear e
 generalize c.toNat = n at *
 have hn : n < 256 := hc0
 clear hc0
 by_cases h1 : n < 65 ∨ 90 < n
 ·rw [zIx n hn h1]
  by_cases h2 : n < 65
  ·refine q9 func94 rfl (fun E hE => ?_); simp only [go_sem, ntmps94]
   repeat' (first | (refine Qr rfl ?_; try intro _ hK; try simp only [go_sem, *]) | (refine Qi rfl rfl rfl rfl ?_ ?_ <;> (intro hb; (try intro _ hK); have hc := hb; try simp only [go_sem] at hc; simp only [go_sem, *])) | refine Qh rfl ?_ | (refine Qc rfl rfl ?_ ?_ <;> (intro hb; have hc := hb; try simp only [go_sem] at hc)) | refine q8 rfl ?_ | ((with_reducible apply And.intro); focus omega) | (refine q7 hK ?_; clear hK; simp only [go_sem, *]) | simp only [q6, z8, go_sem, *])
   all_goals first | contradiction | omega | skip
   all_goals (refine ⟨[_], [], [], ⟨rfl, trivial⟩, ?_⟩; simp only [go_sem, *])
  ·have h3 : 90 < n := h1.resolve_left h2
   refine q9 func94 rfl (fun E hE => ?_); simp only [go_sem, ntmps94]
   repeat' (first | (refine Qr rfl ?_; try intro _ hK; try simp only [go_sem, *]) | (refine Qi rfl rfl rfl rfl ?_ ?_ <;> (intro hb; (try intro _ hK); have hc := hb; try simp only [go_sem] at hc; simp only [go_sem, *])) | refine Qh rfl ?_ | (refine Qc rfl rfl ?_ ?_ <;> (intro hb; have hc := hb; try simp only [go_sem] at hc)) | refine q8 rfl ?_ | ((with_reducible apply And.intro); focus omega) | (refine q7 hK ?_; clear hK; simp only [go_sem, *]) | simp only [q6, z8, go_sem, *])
   all_goals first | contradiction | omega | skip
   all_goals (refine ⟨[_], [], [], ⟨rfl, trivial⟩, ?_⟩; simp only [go_sem, *])
 ·have ha : 65 ≤ n := by omega
  have hb0 : n < 91 := by omega
  by_cases h2 : n = 67 ∨ n = 74 ∨ n = 88 ∨ n = 89 ∨ n = 72 ∨ n = 81 ∨ n = 87
  ·rcases h2 with rfl | rfl | rfl | rfl | rfl | rfl | rfl
   all_goals clear h1 ha hb0 hn
   ·have e : l9 (UInt8.ofNat 67) = [99, 104] := by decide
    rw [e]
    refine q9 func94 rfl (fun E hE => ?_); simp only [go_sem, ntmps94]
    repeat' (first | (refine Qr rfl ?_; try intro _ hK; try simp only [go_sem, *]) | (refine Qi rfl rfl rfl rfl ?_ ?_ <;> (intro hb; (try intro _ hK); have hc := hb; try simp only [go_sem] at hc; simp only [go_sem, *])) | refine Qh rfl ?_ | (refine Qc rfl rfl ?_ ?_ <;> (intro hb; have hc := hb; try simp only [go_sem] at hc)) | refine q8 rfl ?_ | ((with_reducible apply And.intro); focus omega) | (refine q7 hK ?_; clear hK; simp only [go_sem, *]) | simp only [q6, z8, go_sem, *])
    all_goals first | contradiction | omega | skip
    all_goals (refine ⟨[_], [], [], ⟨rfl, trivial⟩, ?_⟩; simp only [go_sem, *])
   ·have e : l9 (UInt8.ofNat 74) = [106, 117] := by decide
    rw [e]
    refine q9 func94 rfl (fun E hE => ?_); simp only [go_sem, ntmps94]
    repeat' (first | (refine Qr rfl ?_; try intro _ hK; try simp only [go_sem, *]) | (refine Qi rfl rfl rfl rfl ?_ ?_ <;> (intro hb; (try intro _ hK); have hc := hb; try simp only [go_sem] at hc; simp only [go_sem, *])) | refine Qh rfl ?_ | (refine Qc rfl rfl ?_ ?_ <;> (intro hb; have hc := hb; try simp only [go_sem] at hc)) | refine q8 rfl ?_ | ((with_reducible apply And.intro); focus omega) | (refine q7 hK ?_; clear hK; simp only [go_sem, *]) | simp only [q6, z8, go_sem, *])
    all_goals first | contradiction | omega | skip
    all_goals (refine ⟨[_], [], [], ⟨rfl, trivial⟩, ?_⟩; simp only [go_sem, *])
   ·have e : l9 (UInt8.ofNat 88) = [115, 104] := by decide
    rw [e]
    refine q9 func94 rfl (fun E hE => ?_); simp only [go_sem, ntmps94]
    repeat' (first | (refine Qr rfl ?_; try intro _ hK; try simp only [go_sem, *]) | (refine Qi rfl rfl rfl rfl ?_ ?_ <;> (intro hb; (try intro _ hK); have hc := hb; try simp only [go_sem] at hc; simp only [go_sem, *])) | refine Qh rfl ?_ | (refine Qc rfl rfl ?_ ?_ <;> (intro hb; have hc := hb; try simp only [go_sem] at hc)) | refine q8 rfl ?_ | ((with_reducible apply And.intro); focus omega) | (refine q7 hK ?_; clear hK; simp only [go_sem, *]) | simp only [q6, z8, go_sem, *])
    all_goals first | contradiction | omega | skip
    all_goals (refine ⟨[_], [], [], ⟨rfl, trivial⟩, ?_⟩; simp only [go_sem, *])
   ·have e : l9 (UInt8.ofNat 89) = [106, 97] := by decide
    rw [e]
    refine q9 func94 rfl (fun E hE => ?_); simp only [go_sem, ntmps94]
    repeat' (first | (refine Qr rfl ?_; try intro _ hK; try simp only [go_sem, *]) | (refine Qi rfl rfl rfl rfl ?_ ?_ <;> (intro hb; (try intro _ hK); have hc := hb; try simp only [go_sem] at hc; simp only [go_sem, *])) | refine Qh rfl ?_ | (refine Qc rfl rfl ?_ ?_ <;> (intro hb; have hc := hb; try simp only [go_sem] at hc)) | refine q8 rfl ?_ | ((with_reducible apply And.intro); focus omega) | (refine q7 hK ?_; clear hK; simp only [go_sem, *]) | simp only [q6, z8, go_sem, *])
    all_goals first | contradiction | omega | skip
    all_goals (refine ⟨[_], [], [], ⟨rfl, trivial⟩, ?_⟩; simp only [go_sem, *])
   ·have e : l9 (UInt8.ofNat 72) = [] := by decide
    rw [e]
    refine q9 func94 rfl (fun E hE => ?_); simp only [go_sem, ntmps94]
    repeat' (first | (refine Qr rfl ?_; try intro _ hK; try simp only [go_sem, *]) | (refine Qi rfl rfl rfl rfl ?_ ?_ <;> (intro hb; (try intro _ hK); have hc := hb; try simp only [go_sem] at hc; simp only [go_sem, *])) | refine Qh rfl ?_ | (refine Qc rfl rfl ?_ ?_ <;> (intro hb; have hc := hb; try simp only [go_sem] at hc)) | refine q8 rfl ?_ | ((with_reducible apply And.intro); focus omega) | (refine q7 hK ?_; clear hK; simp only [go_sem, *]) | simp only [q6, z8, go_sem, *])
    all_goals first | contradiction | omega | skip
    all_goals (refine ⟨[_], [], [], ⟨rfl, trivial⟩, ?_⟩; simp only [go_sem, *])
   ·have e : l9 (UInt8.ofNat 81) = [] := by decide
    rw [e]
    refine q9 func94 rfl (fun E hE => ?_); simp only [go_sem, ntmps94]
    repeat' (first | (refine Qr rfl ?_; try intro _ hK; try simp only [go_sem, *]) | (refine Qi rfl rfl rfl rfl ?_ ?_ <;> (intro hb; (try intro _ hK); have hc := hb; try simp only [go_sem] at hc; simp only [go_sem, *])) | refine Qh rfl ?_ | (refine Qc rfl rfl ?_ ?_ <;> (intro hb; have hc := hb; try simp only [go_sem] at hc)) | refine q8 rfl ?_ | ((with_reducible apply And.intro); focus omega) | (refine q7 hK ?_; clear hK; simp only [go_sem, *]) | simp only [q6, z8, go_sem, *])
    all_goals first | contradiction | omega | skip
    all_goals (refine ⟨[_], [], [], ⟨rfl, trivial⟩, ?_⟩; simp only [go_sem, *])
   ·have e : l9 (UInt8.ofNat 87) = [] := by decide
    rw [e]
    refine q9 func94 rfl (fun E hE => ?_); simp only [go_sem, ntmps94]
    repeat' (first | (refine Qr rfl ?_; try intro _ hK; try simp only [go_sem, *]) | (refine Qi rfl rfl rfl rfl ?_ ?_ <;> (intro hb; (try intro _ hK); have hc := hb; try simp only [go_sem] at hc; simp only [go_sem, *])) | refine Qh rfl ?_ | (refine Qc rfl rfl ?_ ?_ <;> (intro hb; have hc := hb; try simp only [go_sem] at hc)) | refine q8 rfl ?_ | ((with_reducible apply And.intro); focus omega) | (refine q7 hK ?_; clear hK; simp only [go_sem, *]) | simp only [q6, z8, go_sem, *])
    all_goals first | contradiction | omega | skip
    all_goals (refine ⟨[_], [], [], ⟨rfl, trivial⟩, ?_⟩; simp only [go_sem, *])
  ·have e := zIw n hb0 ha (by omega) (by omega) (by omega) (by omega) (by omega) (by omega) (by omega)
   rw [e]
   have hw1 := zJJ n hb0 ha
   have hw2 := zJK n hb0 ha
   have z1 : ((n : Int) == 67) = false := by rw [beq_eq_false_iff_ne]; omega
   have z2 : ((n : Int) == 74) = false := by rw [beq_eq_false_iff_ne]; omega
   have z3 : ((n : Int) == 88) = false := by rw [beq_eq_false_iff_ne]; omega
   have z4 : ((n : Int) == 89) = false := by rw [beq_eq_false_iff_ne]; omega
   have z5 : ((n : Int) == 72) = false := by rw [beq_eq_false_iff_ne]; omega
   have z6 : ((n : Int) == 81) = false := by rw [beq_eq_false_iff_ne]; omega
   have z7 : ((n : Int) == 87) = false := by rw [beq_eq_false_iff_ne]; omega
   have g1 : (n : Int) ≥ 65 := by omega
   have g2 : (n : Int) ≤ 90 := by omega
   clear e h1 h2
   refine q9 func94 rfl (fun E hE => ?_); simp only [go_sem, ntmps94]
   repeat' (first | (refine Qr rfl ?_; try intro _ hK; try simp only [go_sem, *]) | (refine Qi rfl rfl rfl rfl ?_ ?_ <;> (intro hb; (try intro _ hK); have hc := hb; try simp only [go_sem] at hc; simp only [go_sem, *])) | refine Qh rfl ?_ | (refine Qc rfl rfl ?_ ?_ <;> (intro hb; have hc := hb; try simp only [go_sem] at hc)) | refine q8 rfl ?_ | ((with_reducible apply And.intro); focus omega) | (refine q7 hK ?_; clear hK; simp only [go_sem, *]) | simp only [q6, z8, go_sem, *])
   all_goals first | contradiction | omega | skip
   all_goals (refine ⟨[_], [], [], ⟨rfl, trivial⟩, ?_⟩; simp only [go_sem, *])
end Go.Abs

namespace Go.Abs
open Go Go.Proofs Tryz
attribute [local irreducible] y4 Hold y9
def U4 (s : Str) (i a b : Nat) : Prop := a = (s.take i).countP y8 ∧ b = (s.take i).countP v7
theorem zIv (c : UInt8) : (l9 c == ([] : Str)) = !v7 c := by
 unfold l9
 cases h : v7 c
 ·rfl
 ·have := (E3 c).1
  rw [if_pos rfl]
  cases hs : w6 c with
  | nil => rw [hs] at this; simp at this
  | cons a r => rfl
theorem zAY (s : Str) (hl : s.length ≤ 4294967296) : zNF prog 45 [sV s] [] (iV (x4 s)) [] := by
  unfold x4
  by_cases q0 : s.length = 0
  · rw [if_pos q0]
    have q0i : ((s.length : Int) == 0) = true := by rw [q0]; rfl
    refine q9 func45 rfl (fun E hE => ?_); simp only [go_sem, ntmps45]
    repeat' (first | (refine Qr rfl ?_; try intro _ hK; try simp only [go_sem, *]) | (refine Qi rfl rfl rfl rfl ?_ ?_ <;> (intro hb; (try intro _ hK); have hc := hb; try simp only [go_sem] at hc; simp only [go_sem, *])) | refine Qh rfl ?_ | (refine Qc rfl rfl ?_ ?_ <;> (intro hb; have hc := hb; try simp only [go_sem] at hc)) | refine q8 rfl ?_ | ((with_reducible apply And.intro); focus omega) | (refine q7 hK ?_; clear hK; simp only [go_sem, *]) | simp only [q6, z8, go_sem, *])
    all_goals first | contradiction | omega | skip
    all_goals (refine ⟨[_], [], [], ⟨rfl, trivial⟩, ?_⟩; simp only [go_sem, *])
  · rw [if_neg q0]
    have q0i : ((s.length : Int) == 0) = false := by rw [beq_eq_false_iff_ne]; omega
    by_cases q1 : 6 < s.length
    · rw [if_pos q1]
      have q1i : (s.length : Int) > 6 := by omega
      refine q9 func45 rfl (fun E hE => ?_); simp only [go_sem, ntmps45]
      repeat' (first | (refine Qr rfl ?_; try intro _ hK; try simp only [go_sem, *]) | (refine Qi rfl rfl rfl rfl ?_ ?_ <;> (intro hb; (try intro _ hK); have hc := hb; try simp only [go_sem] at hc; simp only [go_sem, *])) | refine Qh rfl ?_ | (refine Qc rfl rfl ?_ ?_ <;> (intro hb; have hc := hb; try simp only [go_sem] at hc)) | refine q8 rfl ?_ | ((with_reducible apply And.intro); focus omega) | (refine q7 hK ?_; clear hK; simp only [go_sem, *]) | simp only [q6, z8, go_sem, *])
      all_goals first | contradiction | omega | skip
      all_goals (refine ⟨[_], [], [], ⟨rfl, trivial⟩, ?_⟩; simp only [go_sem, *])
    · rw [if_neg q1]
      have q1i : ¬ (s.length : Int) > 6 := by omega
      refine q9 func45 rfl (fun E hE => ?_); simp only [go_sem, ntmps45]
      repeat' (first | (refine Qr rfl ?_; try intro _ hK; try simp only [go_sem, *]) | (refine Qi rfl rfl rfl rfl ?_ ?_ <;> (intro hb; (try intro _ hK); have hc := hb; try simp only [go_sem] at hc; simp only [go_sem, *])) | refine Qh rfl ?_ | (refine Qc rfl rfl ?_ ?_ <;> (intro hb; have hc := hb; try simp only [go_sem] at hc)) | refine q8 rfl ?_ | ((with_reducible apply And.intro); focus omega) | (refine q7 hK ?_; clear hK; simp only [go_sem, *]) | simp only [q6, z8, go_sem, *])
      all_goals first | contradiction | omega | skip
      refine O0 rfl (s.length) (fun i (a : Nat) (b : Nat) => U4 s i a b) 41 (fun i a b => [(5, iV i), (3, iV a), (4, iV b), (0, sV s)]) (fun i a b => []) [] [] (0) (0) (by exact ⟨rfl, rfl⟩) ?_; intro i a b hi hP
      by_cases hi2 : i < s.length
      · have hii : (i : Int) < (s.length : Int) := by omega
        have hwi : IntKind.i64.wrap ((i : Int) + 1) = ((i + 1 : Nat) : Int) := t6 (by omega)
        have hab : a ≤ i ∧ b ≤ i := by
          obtain ⟨h1, h2⟩ := hP
          have e1 := List.countP_le_length (p := y8) (l := s.take i)
          have e2 := List.countP_le_length (p := v7) (l := s.take i)
          simp only [List.length_take] at e1 e2
          omega
        have hwa : IntKind.i64.wrap ((a : Int) + 1) = ((a + 1 : Nat) : Int) := t6 (by omega)
        have hwb : IntKind.i64.wrap ((b : Int) + 1) = ((b + 1 : Nat) : Int) := t6 (by omega)
        have sl := zAb (s.getD i 0)
        have ss := zC4 (s.getD i 0)
        have he := zIv (s.getD i 0)
        have hn : U4 s (i + 1) (if y8 (s.getD i 0) = true then a + 1 else a) (if v7 (s.getD i 0) = true then b + 1 else b) := by
          obtain ⟨h1, h2⟩ := hP
          have hd : s.getD i default = s.getD i 0 := rfl
          unfold U4
          rw [E8 hi2, hd, List.countP_append, List.countP_append, ← h1, ← h2]
          constructor
          · rw [List.countP_cons, List.countP_nil]; cases y8 (s.getD i 0) <;> simp
          · rw [List.countP_cons, List.countP_nil]; cases v7 (s.getD i 0) <;> simp
        clear hP hab
        generalize l9 (s.getD i 0) = st at *
        generalize y8 (s.getD i 0) = la at *
        generalize v7 (s.getD i 0) = ob at *
        cases la
        · cases ob
          · have hn : U4 s (i + 1) a b := hn
            have he : (st == ([] : Str)) = true := he
            have he : st = [] := by simpa using he
            subst he
            repeat' (first | (refine Qr rfl ?_; try intro _ hK; try simp only [go_sem, *]) | (refine Qi rfl rfl rfl rfl ?_ ?_ <;> (intro hb; (try intro _ hK); have hc := hb; try simp only [go_sem] at hc; simp only [go_sem, *])) | refine Qh rfl ?_ | (refine Qc rfl rfl ?_ ?_ <;> (intro hb; have hc := hb; try simp only [go_sem] at hc)) | refine q8 rfl ?_ | ((first | refine y5 (sl) ?_ | refine y5 (ss) ?_); simp only [go_sem, *]) | ((with_reducible apply And.intro); focus omega) | (refine q7 hK ?_; clear hK; simp only [go_sem, *]) | simp only [q6, z8, go_sem, *])
            all_goals first | contradiction | omega | skip
            exact i7 (i' := i + 1) [] [] (a) (b) (by exact hn)
          · have hn : U4 s (i + 1) a (b + 1) := hn
            have he : (st == ([] : Str)) = false := he
            repeat' (first | (refine Qr rfl ?_; try intro _ hK; try simp only [go_sem, *]) | (refine Qi rfl rfl rfl rfl ?_ ?_ <;> (intro hb; (try intro _ hK); have hc := hb; try simp only [go_sem] at hc; simp only [go_sem, *])) | refine Qh rfl ?_ | (refine Qc rfl rfl ?_ ?_ <;> (intro hb; have hc := hb; try simp only [go_sem] at hc)) | refine q8 rfl ?_ | ((first | refine y5 (sl) ?_ | refine y5 (ss) ?_); simp only [go_sem, *]) | ((with_reducible apply And.intro); focus omega) | (refine q7 hK ?_; clear hK; simp only [go_sem, *]) | simp only [q6, z8, go_sem, *])
            all_goals first | contradiction | omega | skip
            exact i7 (i' := i + 1) [] [] (a) (b + 1) (by exact hn)
        · cases ob
          · have hn : U4 s (i + 1) (a + 1) b := hn
            have he : (st == ([] : Str)) = true := he
            have he : st = [] := by simpa using he
            subst he
            repeat' (first | (refine Qr rfl ?_; try intro _ hK; try simp only [go_sem, *]) | (refine Qi rfl rfl rfl rfl ?_ ?_ <;> (intro hb; (try intro _ hK); have hc := hb; try simp only [go_sem] at hc; simp only [go_sem, *])) | refine Qh rfl ?_ | (refine Qc rfl rfl ?_ ?_ <;> (intro hb; have hc := hb; try simp only [go_sem] at hc)) | refine q8 rfl ?_ | ((first | refine y5 (sl) ?_ | refine y5 (ss) ?_); simp only [go_sem, *]) | ((with_reducible apply And.intro); focus omega) | (refine q7 hK ?_; clear hK; simp only [go_sem, *]) | simp only [q6, z8, go_sem, *])
            all_goals first | contradiction | omega | skip
            exact i7 (i' := i + 1) [] [] (a + 1) (b) (by exact hn)
          · have hn : U4 s (i + 1) (a + 1) (b + 1) := hn
            have he : (st == ([] : Str)) = false := he
            repeat' (first | (refine Qr rfl ?_; try intro _ hK; try simp only [go_sem, *]) | (refine Qi rfl rfl rfl rfl ?_ ?_ <;> (intro hb; (try intro _ hK); have hc := hb; try simp only [go_sem] at hc; simp only [go_sem, *])) | refine Qh rfl ?_ | (refine Qc rfl rfl ?_ ?_ <;> (intro hb; have hc := hb; try simp only [go_sem] at hc)) | refine q8 rfl ?_ | ((first | refine y5 (sl) ?_ | refine y5 (ss) ?_); simp only [go_sem, *]) | ((with_reducible apply And.intro); focus omega) | (refine q7 hK ?_; clear hK; simp only [go_sem, *]) | simp only [q6, z8, go_sem, *])
            all_goals first | contradiction | omega | skip
            exact i7 (i' := i + 1) [] [] (a + 1) (b + 1) (by exact hn)
      · have hii : ¬ (i : Int) < (s.length : Int) := by omega
        obtain ⟨h1, h2⟩ := hP
        rw [List.take_of_length_le (by omega)] at h1 h2
        have k1 : (a < s.length) ↔ s.all y8 = false := by
          have := List.countP_le_length (p := y8) (l := s)
          have e := List.countP_eq_length (p := y8) (l := s)
          rw [← h1] at this e
          rw [List.all_eq_false]
          constructor
          · intro h
            by_cases hx : ∃ x, x ∈ s ∧ ¬ y8 x = true
            · exact hx
            · have := e.2 (fun x hx2 => by
                cases hq : y8 x with
                | true => rfl
                | false => exact absurd ⟨x, hx2, by rw [hq]; decide⟩ hx)
              omega
          · rintro ⟨x, hx, hn⟩
            by_cases ha : a = s.length
            · exact absurd (e.1 ha x hx) hn
            · omega
        have k2 : (b < s.length) ↔ s.all v7 = false := by
          have := List.countP_le_length (p := v7) (l := s)
          have e := List.countP_eq_length (p := v7) (l := s)
          rw [← h2] at this e
          rw [List.all_eq_false]
          constructor
          · intro h
            by_cases hx : ∃ x, x ∈ s ∧ ¬ v7 x = true
            · exact hx
            · have := e.2 (fun x hx2 => by
                cases hq : v7 x with
                | true => rfl
                | false => exact absurd ⟨x, hx2, by rw [hq]; decide⟩ hx)
              omega
          · rintro ⟨x, hx, hn⟩
            by_cases ha : b = s.length
            · exact absurd (e.1 ha x hx) hn
            · omega
        have hfb : l6 s = (s.all y8 || s.all v7) := rfl
        rw [hfb]
        clear h1 h2 hfb
        generalize s.all y8 = la at *
        generalize s.all v7 = ob at *
        cases la
        · have a1 : (a : Int) < (s.length : Int) := by have := k1.2 rfl; omega
          cases ob
          · have b1 : (b : Int) < (s.length : Int) := by have := k2.2 rfl; omega
            clear k1 k2
            repeat' (first | (refine Qr rfl ?_; try intro _ hK; try simp only [go_sem, *]) | (refine Qi rfl rfl rfl rfl ?_ ?_ <;> (intro hb; (try intro _ hK); have hc := hb; try simp only [go_sem] at hc; simp only [go_sem, *])) | refine Qh rfl ?_ | (refine Qc rfl rfl ?_ ?_ <;> (intro hb; have hc := hb; try simp only [go_sem] at hc)) | refine q8 rfl ?_ | ((with_reducible apply And.intro); focus omega) | (refine q7 hK ?_; clear hK; simp only [go_sem, *]) | simp only [q6, z8, go_sem, *])
            all_goals first | contradiction | omega | skip
            (refine ⟨[_], [], [], ⟨rfl, trivial⟩, ?_⟩; simp only [go_sem, *])
          · have b1 : ¬ (b : Int) < (s.length : Int) := fun h => by have := k2.1 (by omega); cases this
            clear k1 k2
            repeat' (first | (refine Qr rfl ?_; try intro _ hK; try simp only [go_sem, *]) | (refine Qi rfl rfl rfl rfl ?_ ?_ <;> (intro hb; (try intro _ hK); have hc := hb; try simp only [go_sem] at hc; simp only [go_sem, *])) | refine Qh rfl ?_ | (refine Qc rfl rfl ?_ ?_ <;> (intro hb; have hc := hb; try simp only [go_sem] at hc)) | refine q8 rfl ?_ | ((with_reducible apply And.intro); focus omega) | (refine q7 hK ?_; clear hK; simp only [go_sem, *]) | simp only [q6, z8, go_sem, *])
            all_goals first | contradiction | omega | skip
            (refine ⟨[_], [], [], ⟨rfl, trivial⟩, ?_⟩; simp only [go_sem, *])
        · have a1 : ¬ (a : Int) < (s.length : Int) := fun h => by have := k1.1 (by omega); cases this
          clear k1 k2
          repeat' (first | (refine Qr rfl ?_; try intro _ hK; try simp only [go_sem, *]) | (refine Qi rfl rfl rfl rfl ?_ ?_ <;> (intro hb; (try intro _ hK); have hc := hb; try simp only [go_sem] at hc; simp only [go_sem, *])) | refine Qh rfl ?_ | (refine Qc rfl rfl ?_ ?_ <;> (intro hb; have hc := hb; try simp only [go_sem] at hc)) | refine q8 rfl ?_ | ((with_reducible apply And.intro); focus omega) | (refine q7 hK ?_; clear hK; simp only [go_sem, *]) | simp only [q6, z8, go_sem, *])
          all_goals first | contradiction | omega | skip
          (refine ⟨[_], [], [], ⟨rfl, trivial⟩, ?_⟩; simp only [go_sem, *])
theorem zAa (s : Str) (v : ValidN s) : zNF prog 84 [sV s] [] (sV (zNG s)) [] := by
 have sl := zIb s v.ne
 have hl6 := v.len
 cases hla : y8 (s.getD 0 0)
 ·rw [hla] at sl
  have ho := v.other hla
  clear hla
  refine q9 func84 rfl (fun E hE => ?_); simp only [go_sem, ntmps84]
  repeat' (first | (refine Qr rfl ?_; try intro _ hK; try simp only [go_sem, *]) | refine Qh rfl ?_ | (refine Qc rfl rfl ?_ ?_ <;> (intro hb; have hc := hb; try simp only [go_sem] at hc)) | refine q8 rfl ?_ | (refine y5 (sl) ?_; simp only [go_sem, *]) | ((with_reducible apply And.intro); focus omega) | (refine q7 hK ?_; clear hK; simp only [go_sem, *]) | simp only [q6, z8, go_sem, *])
  all_goals try contradiction
  refine n0 rfl (s.length) (fun i => NoQ i) 21 (fun i => [(4, iV i), (3, sV (zNG (s.take i))), (0, sV s)]) (fun i => []) [] [] (by trivial) ?_; intro i hi hP
  have hk2 := zBy s i
  by_cases hi2 : i < s.length
  ·have hii : (i : Int) < (s.length : Int) := by omega
   have hwi : IntKind.i64.wrap ((i : Int) + 1) = ((i + 1 : Nat) : Int) := t6 (by omega)
   have ss := zC4 (s.getD i 0)
   have hob : v7 (s.getD i 0) = true := List.all_eq_true.1 ho _ (by simp [List.getD, hi2])
   have e : l9 (s.getD i 0) = w6 (s.getD i 0) := by unfold l9; rw [if_pos hob]
   rw [e] at ss
   have hs2 := (E3 (s.getD i 0)).2
   have hkt := zBz hi2
   generalize w6 (s.getD i 0) = sb at *
   generalize zNG (s.take i) = kt at *
   clear e hob ho
   repeat' (first | (refine Qr rfl ?_; try intro _ hK; try simp only [go_sem, *]) | refine Qh rfl ?_ | (refine Qc rfl rfl ?_ ?_ <;> (intro hb; have hc := hb; try simp only [go_sem] at hc)) | refine q8 rfl ?_ | (refine y5 (ss) ?_; simp only [go_sem, *]) | ((with_reducible apply And.intro); focus omega) | (refine q7 hK ?_; clear hK; simp only [go_sem, *]) | simp only [q6, z8, go_sem, *])
   all_goals first | contradiction | omega | skip
   exact d7 (i' := i + 1) [] [] (by trivial)
  ·have e : s.take i = s := List.take_of_length_le (by omega)
   have hii : ¬ (i : Int) < (s.length : Int) := by omega
   rw [e]
   clear hk2 ho
   repeat' (first | (refine Qr rfl ?_; try intro _ hK; try simp only [go_sem, *]) | refine Qh rfl ?_ | (refine Qc rfl rfl ?_ ?_ <;> (intro hb; have hc := hb; try simp only [go_sem] at hc)) | refine q8 rfl ?_ | ((with_reducible apply And.intro); focus omega) | (refine q7 hK ?_; clear hK; simp only [go_sem, *]) | simp only [q6, z8, go_sem, *])
   all_goals first | contradiction | omega | skip
   (refine ⟨[_], [], [], ⟨rfl, trivial⟩, ?_⟩; simp only [go_sem, *])
 ·rw [hla] at sl
  have hk := A2 (v.latin hla)
  rw [hk]
  clear hla hk
  refine q9 func84 rfl (fun E hE => ?_); simp only [go_sem, ntmps84]
  repeat' (first | (refine Qr rfl ?_; try intro _ hK; try simp only [go_sem, *]) | refine Qh rfl ?_ | (refine Qc rfl rfl ?_ ?_ <;> (intro hb; have hc := hb; try simp only [go_sem] at hc)) | refine q8 rfl ?_ | (refine y5 (sl) ?_; simp only [go_sem, *]) | ((with_reducible apply And.intro); focus omega) | (refine q7 hK ?_; clear hK; simp only [go_sem, *]) | simp only [q6, z8, go_sem, *])
  all_goals try contradiction
  (refine ⟨[_], [], [], ⟨rfl, trivial⟩, ?_⟩; simp only [go_sem, *])
theorem zMv (s : Str) (hl : s.length ≤ 4294967296) : zNF prog 41 [sV s] [] (.tup [sV (if x4 s = 0 then zNG s else []), iV (x4 s)]) [] := by
 have s1 := zAY s hl
 by_cases q : x4 s = 0
 ·have s2 := zAa s (checkN_zero.1 q)
  rw [if_pos q]
  rw [q] at s1 ⊢
  generalize zNG s = k at *
  clear q
  refine q9 func41 rfl (fun E hE => ?_); simp only [go_sem, ntmps41]
  repeat' (first | (refine Qr rfl ?_; try intro _ hK; try simp only [go_sem, *]) | refine Qh rfl ?_ | (refine Qc rfl rfl ?_ ?_ <;> (intro hb; have hc := hb; try simp only [go_sem] at hc)) | refine q8 rfl ?_ | ((first | refine y5 (s1) ?_ | refine y5 (s2) ?_); simp only [go_sem, *]) | ((with_reducible apply And.intro); focus omega) | (refine q7 hK ?_; clear hK; simp only [go_sem, *]) | simp only [q6, z8, go_sem, *])
  all_goals try contradiction
  (refine ⟨[_, _], [], [], ⟨rfl, rfl, trivial⟩, ?_⟩; simp only [go_sem, *])
 ·rw [if_neg q]
  generalize x4 s = e at *
  refine q9 func41 rfl (fun E hE => ?_); simp only [go_sem, ntmps41]
  repeat' (first | (refine Qr rfl ?_; try intro _ hK; try simp only [go_sem, *]) | refine Qh rfl ?_ | (refine Qc rfl rfl ?_ ?_ <;> (intro hb; have hc := hb; try simp only [go_sem] at hc)) | refine q8 rfl ?_ | (refine y5 (s1) ?_; simp only [go_sem, *]) | ((with_reducible apply And.intro); focus omega) | (refine q7 hK ?_; clear hK; simp only [go_sem, *]) | simp only [q6, z8, go_sem, *])
  all_goals try contradiction
  (refine ⟨[_, _], [], [], ⟨rfl, rfl, trivial⟩, ?_⟩; simp only [go_sem, *])
end Go.Abs

namespace Go.Abs
open Go Go.Proofs Tryz
attribute [local irreducible] y4 Hold y9
def zOg (a b : Str) : Bool := decide (o5 a b < 0)
theorem zGd {l : List Str} {i : Nat} (hi : i < l.length) : v6 (l.drop i) = if x4 (l.getD i default) = 0 then v6 (l.drop (i + 1)) else x4 (l.getD i default) := by
 rw [j3 hi, v6]
theorem zC3 (l : List Str) (hl : l.length ≤ 4294967296) (hx : ∀ s, s ∈ l → s.length ≤ 4294967296) : zNF prog 81 [y7 l] [] (iV (u9 l)) [] := by
 unfold u9
 by_cases q : 6 < l.length
 ·rw [if_pos q]
  have qi : (l.length : Int) > 6 := by omega
  refine q9 func81 rfl (fun E hE => ?_); simp only [go_sem, ntmps81]
  repeat' (first | (refine Qr rfl ?_; try intro _ hK; try simp only [go_sem, *]) | refine Qh rfl ?_ | (refine Qc rfl rfl ?_ ?_ <;> (intro hb; have hc := hb; try simp only [go_sem] at hc)) | refine q8 rfl ?_ | ((with_reducible apply And.intro); focus omega) | (refine q7 hK ?_; clear hK; simp only [go_sem, *]) | simp only [q6, z8, go_sem, *])
  all_goals first | contradiction | omega | skip
  (refine ⟨[_], [], [], ⟨rfl, trivial⟩, ?_⟩; simp only [go_sem, *])
 ·rw [if_neg q]
  have qi : ¬ (l.length : Int) > 6 := by omega
  obtain ⟨R, hR⟩ : ∃ R, v6 l = R := ⟨_, rfl⟩
  rw [hR]
  have h0 : v6 (l.drop 0) = R := hR
  clear hR
  refine q9 func81 rfl (fun E hE => ?_); simp only [go_sem, ntmps81]
  repeat' (first | (refine Qr rfl ?_; try intro _ hK; try simp only [go_sem, *]) | refine Qh rfl ?_ | (refine Qc rfl rfl ?_ ?_ <;> (intro hb; have hc := hb; try simp only [go_sem] at hc)) | refine q8 rfl ?_ | ((with_reducible apply And.intro); focus omega) | (refine q7 hK ?_; clear hK; simp only [go_sem, *]) | simp only [q6, z8, go_sem, *])
  all_goals first | contradiction | omega | skip
  refine n0 rfl (l.length) (fun i => v6 (l.drop i) = R) 22 (fun i => [(3, iV i), (0, y7 l)]) (fun i => []) [] [] (by exact h0) ?_; intro i hi hP
  clear h0
  by_cases hi2 : i < l.length
  ·have hii : (i : Int) < (l.length : Int) := by omega
   have hwi : IntKind.i64.wrap ((i : Int) + 1) = ((i + 1 : Nat) : Int) := t6 (by omega)
   rw [zGd hi2] at hP
   have sc := zAY _ (hx _ (o7 hi2))
   by_cases q2 : x4 (l.getD i default) = 0
   ·rw [if_pos q2] at hP
    rw [q2] at sc
    clear q2
    repeat' (first | (refine Qr rfl ?_; try intro _ hK; try simp only [go_sem, *]) | refine Qh rfl ?_ | (refine Qc rfl rfl ?_ ?_ <;> (intro hb; have hc := hb; try simp only [go_sem] at hc)) | refine q8 rfl ?_ | (refine y5 (sc) ?_; simp only [go_sem, *]) | ((with_reducible apply And.intro); focus omega) | (refine q7 hK ?_; clear hK; simp only [go_sem, *]) | simp only [q6, z8, go_sem, *])
    all_goals first | contradiction | omega | skip
    exact d7 (i' := i + 1) [] [] (by exact hP)
   ·rw [if_neg q2] at hP
    subst hP
    generalize x4 (l.getD i default) = e at *
    repeat' (first | (refine Qr rfl ?_; try intro _ hK; try simp only [go_sem, *]) | refine Qh rfl ?_ | (refine Qc rfl rfl ?_ ?_ <;> (intro hb; have hc := hb; try simp only [go_sem] at hc)) | refine q8 rfl ?_ | (refine y5 (sc) ?_; simp only [go_sem, *]) | ((with_reducible apply And.intro); focus omega) | (refine q7 hK ?_; clear hK; simp only [go_sem, *]) | simp only [q6, z8, go_sem, *])
    all_goals first | contradiction | omega | skip
    (refine ⟨[_], [], [], ⟨rfl, trivial⟩, ?_⟩; simp only [go_sem, *])
  ·have hii : ¬ (i : Int) < (l.length : Int) := by omega
   rw [c0 (by omega)] at hP
   have hP : 0 = R := hP
   subst hP
   repeat' (first | (refine Qr rfl ?_; try intro _ hK; try simp only [go_sem, *]) | refine Qh rfl ?_ | (refine Qc rfl rfl ?_ ?_ <;> (intro hb; have hc := hb; try simp only [go_sem] at hc)) | refine q8 rfl ?_ | ((with_reducible apply And.intro); focus omega) | (refine q7 hK ?_; clear hK; simp only [go_sem, *]) | simp only [q6, z8, go_sem, *])
   all_goals first | contradiction | omega | skip
   (refine ⟨[_], [], [], ⟨rfl, trivial⟩, ?_⟩; simp only [go_sem, *])
end Go.Abs

namespace Go.Abs
open Go Go.Proofs Tryz
attribute [local irreducible] y4 Hold y9
theorem zIf (s : Str) (lo hi : Nat) (hl : s.length ≤ 4294967296) : zNF prog 131 [sV s, iV lo, iV hi] [] (bV (x7 s lo hi)) [] := by
 unfold x7
 by_cases q1 : lo ≤ s.length
 ·have q1i : ¬ (s.length : Int) < (lo : Int) := by omega
  rw [decide_eq_true q1, Bool.true_and]
  by_cases q2 : s.length ≤ hi
  ·have q2i : ¬ (s.length : Int) > (hi : Int) := by omega
   rw [decide_eq_true q2, Bool.true_and]
   obtain ⟨R, hR⟩ : ∃ R, s.all y8 = R := ⟨_, rfl⟩
   rw [hR]
   have h0 : (s.drop 0).all y8 = R := hR
   clear hR
   refine q9 func131 rfl (fun E hE => ?_); simp only [go_sem, ntmps131]
   repeat' (first | (refine Qr rfl ?_; try intro _ hK; try simp only [go_sem, *]) | (refine Qi rfl rfl rfl rfl ?_ ?_ <;> (intro hb; (try intro _ hK); have hc := hb; try simp only [go_sem] at hc; simp only [go_sem, *])) | refine Qh rfl ?_ | (refine Qc rfl rfl ?_ ?_ <;> (intro hb; have hc := hb; try simp only [go_sem] at hc)) | refine q8 rfl ?_ | ((with_reducible apply And.intro); focus omega) | (refine q7 hK ?_; clear hK; simp only [go_sem, *]) | simp only [q6, z8, go_sem, *])
   all_goals first | contradiction | omega | skip
   refine n0 rfl (s.length) (fun i => (s.drop i).all y8 = R) 29 (fun i => [(7, iV i), (0, sV s)]) (fun i => []) [] [] (by exact h0) ?_; intro i hi hP
   clear h0
   by_cases hi2 : i < s.length
   ·have hii : (i : Int) < (s.length : Int) := by omega
    have hwi : IntKind.i64.wrap ((i : Int) + 1) = ((i + 1 : Nat) : Int) := t6 (by omega)
    have hd : s.drop i = s.getD i 0 :: s.drop (i + 1) := by
     rw [List.drop_eq_getElem_cons hi2]; simp [List.getD, hi2]
    rw [hd, List.all_cons] at hP
    have sl := zAb (s.getD i 0)
    generalize y8 (s.getD i 0) = b at *
    clear hd
    cases b
    ·have hP : false = R := hP
     subst hP
     repeat' (first | (refine Qr rfl ?_; try intro _ hK; try simp only [go_sem, *]) | (refine Qi rfl rfl rfl rfl ?_ ?_ <;> (intro hb; (try intro _ hK); have hc := hb; try simp only [go_sem] at hc; simp only [go_sem, *])) | refine Qh rfl ?_ | (refine Qc rfl rfl ?_ ?_ <;> (intro hb; have hc := hb; try simp only [go_sem] at hc)) | refine q8 rfl ?_ | (refine y5 (sl) ?_; simp only [go_sem, *]) | ((with_reducible apply And.intro); focus omega) | (refine q7 hK ?_; clear hK; simp only [go_sem, *]) | simp only [q6, z8, go_sem, *])
     all_goals first | contradiction | omega | skip
     (refine ⟨[_], [], [], ⟨rfl, trivial⟩, ?_⟩; simp only [go_sem, *])
    ·have hP : (s.drop (i + 1)).all y8 = R := by simpa using hP
     repeat' (first | (refine Qr rfl ?_; try intro _ hK; try simp only [go_sem, *]) | (refine Qi rfl rfl rfl rfl ?_ ?_ <;> (intro hb; (try intro _ hK); have hc := hb; try simp only [go_sem] at hc; simp only [go_sem, *])) | refine Qh rfl ?_ | (refine Qc rfl rfl ?_ ?_ <;> (intro hb; have hc := hb; try simp only [go_sem] at hc)) | refine q8 rfl ?_ | (refine y5 (sl) ?_; simp only [go_sem, *]) | ((with_reducible apply And.intro); focus omega) | (refine q7 hK ?_; clear hK; simp only [go_sem, *]) | simp only [q6, z8, go_sem, *])
     all_goals first | contradiction | omega | skip
     exact d7 (i' := i + 1) [] [] (by exact hP)
   ·have hii : ¬ (i : Int) < (s.length : Int) := by omega
    rw [List.drop_of_length_le (by omega)] at hP
    have hP : true = R := hP
    subst hP
    repeat' (first | (refine Qr rfl ?_; try intro _ hK; try simp only [go_sem, *]) | (refine Qi rfl rfl rfl rfl ?_ ?_ <;> (intro hb; (try intro _ hK); have hc := hb; try simp only [go_sem] at hc; simp only [go_sem, *])) | refine Qh rfl ?_ | (refine Qc rfl rfl ?_ ?_ <;> (intro hb; have hc := hb; try simp only [go_sem] at hc)) | refine q8 rfl ?_ | ((with_reducible apply And.intro); focus omega) | (refine q7 hK ?_; clear hK; simp only [go_sem, *]) | simp only [q6, z8, go_sem, *])
    all_goals first | contradiction | omega | skip
    (refine ⟨[_], [], [], ⟨rfl, trivial⟩, ?_⟩; simp only [go_sem, *])
  ·have q2i : (s.length : Int) > (hi : Int) := by omega
   rw [decide_eq_false q2, Bool.false_and]
   refine q9 func131 rfl (fun E hE => ?_); simp only [go_sem, ntmps131]
   repeat' (first | (refine Qr rfl ?_; try intro _ hK; try simp only [go_sem, *]) | (refine Qi rfl rfl rfl rfl ?_ ?_ <;> (intro hb; (try intro _ hK); have hc := hb; try simp only [go_sem] at hc; simp only [go_sem, *])) | refine Qh rfl ?_ | (refine Qc rfl rfl ?_ ?_ <;> (intro hb; have hc := hb; try simp only [go_sem] at hc)) | refine q8 rfl ?_ | ((with_reducible apply And.intro); focus omega) | (refine q7 hK ?_; clear hK; simp only [go_sem, *]) | simp only [q6, z8, go_sem, *])
   all_goals first | contradiction | omega | skip
   (refine ⟨[_], [], [], ⟨rfl, trivial⟩, ?_⟩; simp only [go_sem, *])
 ·have q1i : (s.length : Int) < (lo : Int) := by omega
  rw [decide_eq_false q1, Bool.false_and]
  refine q9 func131 rfl (fun E hE => ?_); simp only [go_sem, ntmps131]
  repeat' (first | (refine Qr rfl ?_; try intro _ hK; try simp only [go_sem, *]) | (refine Qi rfl rfl rfl rfl ?_ ?_ <;> (intro hb; (try intro _ hK); have hc := hb; try simp only [go_sem] at hc; simp only [go_sem, *])) | refine Qh rfl ?_ | (refine Qc rfl rfl ?_ ?_ <;> (intro hb; have hc := hb; try simp only [go_sem] at hc)) | refine q8 rfl ?_ | ((with_reducible apply And.intro); focus omega) | (refine q7 hK ?_; clear hK; simp only [go_sem, *]) | simp only [q6, z8, go_sem, *])
  all_goals first | contradiction | omega | skip
  (refine ⟨[_], [], [], ⟨rfl, trivial⟩, ?_⟩; simp only [go_sem, *])
end Go.Abs

namespace Go.Abs
open Go Go.Proofs Tryz
attribute [local irreducible] y4 Hold y9
theorem zIg (s t : Str) (hs : s.length ≤ 1000) (ht : t.length ≤ 1000) : zNF prog 137 [sV s, sV t] [] (bV (zNP s t)) [] := by
 have h0 : zNP (s.drop 0) (t.drop 0) = zNP s t := rfl
 generalize zNP s t = R at *
 refine q9 func137 rfl (fun E hE => ?_); simp only [go_sem, ntmps137]
 repeat' (first | (refine Qr rfl ?_; try intro _ hK; try simp only [go_sem, *]) | (refine Qi rfl rfl rfl rfl ?_ ?_ <;> (intro hb; (try intro _ hK); have hc := hb; try simp only [go_sem] at hc; simp only [go_sem, *])) | refine Qh rfl ?_ | refine Qd rfl (by kernel_rfl) ?_ | (refine Qc rfl rfl ?_ ?_ <;> (intro hb; have hc := hb; try simp only [go_sem] at hc)) | refine q8 rfl ?_ | (refine Qb ?_ ?_; focus kernel_rfl) | ((with_reducible apply And.intro); focus omega) | (refine q7 hK ?_; clear hK; simp only [go_sem, *]) | simp only [q6, z8, go_sem, *])
 refine c7 rfl (t.length) (fun i (a : Nat) => zNP (s.drop a) (t.drop i) = R ∧ a ≤ s.length) 32 (fun i a => [(6, iV i), (5, iV a), (0, sV s), (1, sV t)]) (fun i a => []) [] [] (0) (by exact ⟨h0, Nat.zero_le _⟩) ?_; intro i a hi hP
 clear h0
 obtain ⟨hP, ha⟩ := hP
 have hwi : IntKind.i64.wrap ((i : Int) + 1) = ((i + 1 : Nat) : Int) := t6 (by omega)
 have hwa : IntKind.i64.wrap ((a : Int) + 1) = ((a + 1 : Nat) : Int) := t6 (by omega)
 by_cases hi2 : i < t.length
 ·have hii : (i : Int) < (t.length : Int) := by omega
  by_cases ha2 : a < s.length
  ·have hai : (a : Int) < (s.length : Int) := by omega
   by_cases q : t.getD i 0 = s.getD a 0
   ·rw [zI2 ha2 hi2 q] at hP
    have qn : ((t.getD i 0).toNat : Int) = (s.getD a 0).toNat := by rw [q]
    clear q
    repeat' (first | (refine Qr rfl ?_; try intro _ hK; try simp only [go_sem, *]) | (refine Qi rfl rfl rfl rfl ?_ ?_ <;> (intro hb; (try intro _ hK); have hc := hb; try simp only [go_sem] at hc; simp only [go_sem, *])) | refine Qh rfl ?_ | refine Qd rfl (by kernel_rfl) ?_ | (refine Qc rfl rfl ?_ ?_ <;> (intro hb; have hc := hb; try simp only [go_sem] at hc)) | refine q8 rfl ?_ | (refine Qb ?_ ?_; focus kernel_rfl) | ((with_reducible apply And.intro); focus omega) | (refine q7 hK ?_; clear hK; simp only [go_sem, *]) | simp only [q6, z8, go_sem, *])
    all_goals first | contradiction | omega | skip
    exact p5 (i' := i + 1) [] [] (a + 1) (by exact ⟨hP, by omega⟩)
   ·rw [zI3 ha2 hi2 q] at hP
    have qn : ¬ ((t.getD i 0).toNat : Int) = (s.getD a 0).toNat := fun h => q (UInt8.toNat_inj.1 (by omega))
    clear q
    repeat' (first | (refine Qr rfl ?_; try intro _ hK; try simp only [go_sem, *]) | (refine Qi rfl rfl rfl rfl ?_ ?_ <;> (intro hb; (try intro _ hK); have hc := hb; try simp only [go_sem] at hc; simp only [go_sem, *])) | refine Qh rfl ?_ | refine Qd rfl (by kernel_rfl) ?_ | (refine Qc rfl rfl ?_ ?_ <;> (intro hb; have hc := hb; try simp only [go_sem] at hc)) | refine q8 rfl ?_ | (refine Qb ?_ ?_; focus kernel_rfl) | ((with_reducible apply And.intro); focus omega) | (refine q7 hK ?_; clear hK; simp only [go_sem, *]) | simp only [q6, z8, go_sem, *])
    all_goals first | contradiction | omega | skip
    exact p5 (i' := i + 1) [] [] (a) (by exact ⟨hP, ha⟩)
  ·have hai : ¬ (a : Int) < (s.length : Int) := by omega
   have hae : ((a : Int) == (s.length : Int)) = true := by rw [beq_iff_eq]; omega
   rw [List.drop_eq_nil_of_le (by omega), zI4] at hP
   subst hP
   repeat' (first | (refine Qr rfl ?_; try intro _ hK; try simp only [go_sem, *]) | (refine Qi rfl rfl rfl rfl ?_ ?_ <;> (intro hb; (try intro _ hK); have hc := hb; try simp only [go_sem] at hc; simp only [go_sem, *])) | refine Qh rfl ?_ | refine Qd rfl (by kernel_rfl) ?_ | (refine Qc rfl rfl ?_ ?_ <;> (intro hb; have hc := hb; try simp only [go_sem] at hc)) | refine q8 rfl ?_ | (refine Qb ?_ ?_; focus kernel_rfl) | ((with_reducible apply And.intro); focus omega) | (refine q7 hK ?_; clear hK; simp only [go_sem, *]) | simp only [q6, z8, go_sem, *])
   all_goals first | contradiction | omega | skip
   (refine ⟨[_], [], [], ⟨rfl, trivial⟩, ?_⟩; simp only [go_sem, *])
 ·have hii : ¬ (i : Int) < (t.length : Int) := by omega
  rw [zI1 (by omega)] at hP
  have hae : ((a : Int) == (s.length : Int)) = R := by
   rw [← hP]
   by_cases e : s.length ≤ a
   ·rw [decide_eq_true e, beq_iff_eq]; omega
   ·rw [decide_eq_false e, beq_eq_false_iff_ne]; omega
  clear hP
  repeat' (first | (refine Qr rfl ?_; try intro _ hK; try simp only [go_sem, *]) | (refine Qi rfl rfl rfl rfl ?_ ?_ <;> (intro hb; (try intro _ hK); have hc := hb; try simp only [go_sem] at hc; simp only [go_sem, *])) | refine Qh rfl ?_ | refine Qd rfl (by kernel_rfl) ?_ | (refine Qc rfl rfl ?_ ?_ <;> (intro hb; have hc := hb; try simp only [go_sem] at hc)) | refine q8 rfl ?_ | (refine Qb ?_ ?_; focus kernel_rfl) | ((with_reducible apply And.intro); focus omega) | (refine q7 hK ?_; clear hK; simp only [go_sem, *]) | simp only [q6, z8, go_sem, *])
  all_goals first | contradiction | omega | skip
  (refine ⟨[_], [], [], ⟨rfl, trivial⟩, ?_⟩; simp only [go_sem, *])
theorem zC2 (s k : Str) (hs0 : 0 < s.length) (hs : s.length ≤ 1000) (hk : k.length ≤ 1000) : zNF prog 113 [sV s, sV k] [] (bV (u0 s k)) [] := by
 have sp := zIg s k hs hk
 unfold u0
 generalize zNP s k = b at *
 by_cases q1 : s.length < k.length
 ·have q1i : (s.length : Int) < (k.length : Int) := by omega
  rw [decide_eq_true q1, Bool.true_and]
  by_cases q2 : s.getD 0 0 = k.getD 0 0
  ·have q2n : ((s.getD 0 0).toNat : Int) = (k.getD 0 0).toNat := by rw [q2]
   have e : (s.getD 0 0 == k.getD 0 0) = true := by simpa using q2
   rw [e, Bool.true_and]
   clear e q2
   refine q9 func113 rfl (fun E hE => ?_); simp only [go_sem, ntmps113]
   repeat' (first | (refine Qr rfl ?_; try intro _ hK; try simp only [go_sem, *]) | (refine Qi rfl rfl rfl rfl ?_ ?_ <;> (intro hb; (try intro _ hK); have hc := hb; try simp only [go_sem] at hc; simp only [go_sem, *])) | refine Qh rfl ?_ | refine Qd rfl (by kernel_rfl) ?_ | (refine Qc rfl rfl ?_ ?_ <;> (intro hb; have hc := hb; try simp only [go_sem] at hc)) | refine q8 rfl ?_ | (refine Qb ?_ ?_; focus kernel_rfl) | (refine y5 (sp) ?_; simp only [go_sem, *]) | ((with_reducible apply And.intro); focus omega) | (refine q7 hK ?_; clear hK; simp only [go_sem, *]) | simp only [q6, z8, go_sem, *])
   all_goals first | contradiction | omega | skip
   (refine ⟨[_], [], [], ⟨rfl, trivial⟩, ?_⟩; simp only [go_sem, *])
  ·have q2n : ¬ ((s.getD 0 0).toNat : Int) = (k.getD 0 0).toNat := fun h => q2 (UInt8.toNat_inj.1 (by omega))
   have e : (s.getD 0 0 == k.getD 0 0) = false := by simpa using q2
   rw [e, Bool.false_and]
   clear e q2
   refine q9 func113 rfl (fun E hE => ?_); simp only [go_sem, ntmps113]
   repeat' (first | (refine Qr rfl ?_; try intro _ hK; try simp only [go_sem, *]) | (refine Qi rfl rfl rfl rfl ?_ ?_ <;> (intro hb; (try intro _ hK); have hc := hb; try simp only [go_sem] at hc; simp only [go_sem, *])) | refine Qh rfl ?_ | refine Qd rfl (by kernel_rfl) ?_ | (refine Qc rfl rfl ?_ ?_ <;> (intro hb; have hc := hb; try simp only [go_sem] at hc)) | refine q8 rfl ?_ | (refine Qb ?_ ?_; focus kernel_rfl) | (refine y5 (sp) ?_; simp only [go_sem, *]) | ((with_reducible apply And.intro); focus omega) | (refine q7 hK ?_; clear hK; simp only [go_sem, *]) | simp only [q6, z8, go_sem, *])
   all_goals first | contradiction | omega | skip
   (refine ⟨[_], [], [], ⟨rfl, trivial⟩, ?_⟩; simp only [go_sem, *])
 ·have q1i : ¬ (s.length : Int) < (k.length : Int) := by omega
  rw [decide_eq_false q1, Bool.false_and]
  refine q9 func113 rfl (fun E hE => ?_); simp only [go_sem, ntmps113]
  repeat' (first | (refine Qr rfl ?_; try intro _ hK; try simp only [go_sem, *]) | (refine Qi rfl rfl rfl rfl ?_ ?_ <;> (intro hb; (try intro _ hK); have hc := hb; try simp only [go_sem] at hc; simp only [go_sem, *])) | refine Qh rfl ?_ | refine Qd rfl (by kernel_rfl) ?_ | (refine Qc rfl rfl ?_ ?_ <;> (intro hb; have hc := hb; try simp only [go_sem] at hc)) | refine q8 rfl ?_ | (refine Qb ?_ ?_; focus kernel_rfl) | (refine y5 (sp) ?_; simp only [go_sem, *]) | ((with_reducible apply And.intro); focus omega) | (refine q7 hK ?_; clear hK; simp only [go_sem, *]) | simp only [q6, z8, go_sem, *])
  all_goals first | contradiction | omega | skip
  (refine ⟨[_], [], [], ⟨rfl, trivial⟩, ?_⟩; simp only [go_sem, *])
end Go.Abs

namespace Go.Abs
open Go Go.Proofs Tryz
attribute [local irreducible] y4 Hold y9
theorem zB0 {s : Str} (v : ValidN s) : 1 ≤ (zNG s).length ∧ (zNG s).length ≤ 12 := by
 have h := K1 v
 unfold x7 at h
 simp only [Bool.and_eq_true, decide_eq_true_eq] at h
 exact ⟨h.1, h.2.1⟩
def zJe (l : List Str) (s own : Str) (j : Nat) (g : Bool) : Prop := g = !(l.take j).any (zOc s own)
end Go.Abs

namespace Go.Abs
open Go Go.Proofs Tryz
attribute [local irreducible] y4 Hold y9
theorem zAZ (s : Str) (hs : s.length ≤ 4294967296) : zNF prog 112 [sV s] [] (iV (if r4 s = true then 0 else 2)) [] := by
 by_cases q0 : s.length = 0
 ·have e : s = [] := List.eq_nil_of_length_eq_zero q0
  subst e
  have e : r4 [] = false := rfl
  rw [e, if_neg (by decide)]
  refine q9 func112 rfl (fun E hE => ?_); simp only [go_sem, ntmps112]
  repeat' (first | (refine Qr rfl ?_; try intro _ hK; try simp only [go_sem, *]) | (refine Qi rfl rfl rfl rfl ?_ ?_ <;> (intro hb; (try intro _ hK); have hc := hb; try simp only [go_sem] at hc; simp only [go_sem, *])) | refine Qh rfl ?_ | (refine Qc rfl rfl ?_ ?_ <;> (intro hb; have hc := hb; try simp only [go_sem] at hc)) | refine q8 rfl ?_ | ((with_reducible apply And.intro); focus omega) | (refine q7 hK ?_; clear hK; simp only [go_sem, *]) | simp only [q6, z8, go_sem, *])
  all_goals first | contradiction | omega | skip
  all_goals (refine ⟨[_], [], [], ⟨rfl, trivial⟩, ?_⟩; simp only [go_sem, *])
 ·have hw : IntKind.i64.wrap ((s.length : Int) - 1) = ((s.length - 1 : Nat) : Int) := by rw [wrap_i64 (by omega) (by omega)]; omega
  have sl := zIf (w4 s) 1 12 (by unfold w4; simp; omega)
  have e : r4 s = (decide (s.getD (s.length - 1) 0 = 46) && x7 (w4 s) 1 12) := by unfold r4; rw [zI5 (by omega)]
  rw [e]
  clear e
  have hn : ¬ ((s.length - 1 : Nat) : Int) < 0 := by omega
  have hn2 : s.length - 1 < s.length := by omega
  have hn3 : s.length - 1 ≤ s.length := by omega
  have hle : s.take (s.length - 1) = w4 s := rfl
  generalize x7 (w4 s) 1 12 = b at *
  generalize s.length - 1 = n at *
  by_cases q1 : s.getD n 0 = 46
  ·have q1i : ((s.getD n 0).toNat : Int) = 46 := by rw [q1]; rfl
   rw [decide_eq_true q1, Bool.true_and]
   clear q1
   cases b
   ·rw [if_neg (by decide)]
    refine q9 func112 rfl (fun E hE => ?_); simp only [go_sem, ntmps112]
    repeat' (first | (refine Qr rfl ?_; try intro _ hK; try simp only [go_sem, *]) | (refine Qi rfl rfl rfl rfl ?_ ?_ <;> (intro hb; (try intro _ hK); have hc := hb; try simp only [go_sem] at hc; simp only [go_sem, *])) | refine Qh rfl ?_ | (refine Qc rfl rfl ?_ ?_ <;> (intro hb; have hc := hb; try simp only [go_sem] at hc)) | refine q8 rfl ?_ | (refine y5 (sl) ?_; simp only [go_sem, *]) | ((with_reducible apply And.intro); focus omega) | (refine q7 hK ?_; clear hK; simp only [go_sem, *]) | simp only [q6, z8, go_sem, *])
    all_goals first | contradiction | omega | skip
    all_goals (refine ⟨[_], [], [], ⟨rfl, trivial⟩, ?_⟩; simp only [go_sem, *])
   ·rw [if_pos rfl]
    refine q9 func112 rfl (fun E hE => ?_); simp only [go_sem, ntmps112]
    repeat' (first | (refine Qr rfl ?_; try intro _ hK; try simp only [go_sem, *]) | (refine Qi rfl rfl rfl rfl ?_ ?_ <;> (intro hb; (try intro _ hK); have hc := hb; try simp only [go_sem] at hc; simp only [go_sem, *])) | refine Qh rfl ?_ | (refine Qc rfl rfl ?_ ?_ <;> (intro hb; have hc := hb; try simp only [go_sem] at hc)) | refine q8 rfl ?_ | (refine y5 (sl) ?_; simp only [go_sem, *]) | ((with_reducible apply And.intro); focus omega) | (refine q7 hK ?_; clear hK; simp only [go_sem, *]) | simp only [q6, z8, go_sem, *])
    all_goals first | contradiction | omega | skip
    all_goals (refine ⟨[_], [], [], ⟨rfl, trivial⟩, ?_⟩; simp only [go_sem, *])
  ·have q1i : ¬ ((s.getD n 0).toNat : Int) = 46 := fun h => q1 (UInt8.toNat_inj.1 (by have e : (46 : UInt8).toNat = 46 := rfl; omega))
   rw [decide_eq_false q1, Bool.false_and, if_neg (by decide)]
   clear q1
   refine q9 func112 rfl (fun E hE => ?_); simp only [go_sem, ntmps112]
   repeat' (first | (refine Qr rfl ?_; try intro _ hK; try simp only [go_sem, *]) | (refine Qi rfl rfl rfl rfl ?_ ?_ <;> (intro hb; (try intro _ hK); have hc := hb; try simp only [go_sem] at hc; simp only [go_sem, *])) | refine Qh rfl ?_ | (refine Qc rfl rfl ?_ ?_ <;> (intro hb; have hc := hb; try simp only [go_sem] at hc)) | refine q8 rfl ?_ | (refine y5 (sl) ?_; simp only [go_sem, *]) | ((with_reducible apply And.intro); focus omega) | (refine q7 hK ?_; clear hK; simp only [go_sem, *]) | simp only [q6, z8, go_sem, *])
   all_goals first | contradiction | omega | skip
   all_goals (refine ⟨[_], [], [], ⟨rfl, trivial⟩, ?_⟩; simp only [go_sem, *])
theorem zMw (s x : Str) (hs : s.length ≤ 4294967296) (hx : x.length ≤ 4294967296) : zNF prog 71 [sV s, sV x] [] (.tup [bV (zNu s x), iV (zNk s x)]) [] := by
 have s1 := zAZ s hs
 have s2 := zAY x hx
 cases q : r4 s with
 | false =>
  rw [q, if_neg (by decide)] at s1
  have e1 : zNk s x = 2 := by unfold zNk; rw [q]; rfl
  have e2 : zNu s x = false := by unfold zNu; rw [e1]; rfl
  rw [e1, e2]
  clear e1 e2
  clear q
  refine q9 func71 rfl (fun E hE => ?_); simp only [go_sem, ntmps71]
  repeat' (first | (refine Qr rfl ?_; try intro _ hK; try simp only [go_sem, *]) | refine Qh rfl ?_ | refine Qd rfl (by kernel_rfl) ?_ | (refine Qc rfl rfl ?_ ?_ <;> (intro hb; have hc := hb; try simp only [go_sem] at hc)) | refine q8 rfl ?_ | (refine Qb ?_ ?_; focus kernel_rfl) | (refine x5 (s1) ?_ ?_; (focus (simp only [go_sem, *]; done)); simp only [go_sem, *]) | ((with_reducible apply And.intro); focus omega) | (refine q7 hK ?_; clear hK; simp only [go_sem, *]) | simp only [q6, z8, go_sem, *])
  all_goals try contradiction
  (refine ⟨[_, _], [], [], ⟨rfl, rfl, trivial⟩, ?_⟩; simp only [go_sem, *])
 | true =>
  rw [q, if_pos rfl] at s1
  have e1 : zNk s x = x4 x := by unfold zNk; rw [q]; rfl
  unfold zNu
  rw [e1]
  clear e1
  obtain ⟨k1, k2, k3, k4⟩ := E2 q
  by_cases q2 : x4 x = 0
  ·have v := checkN_zero.1 q2
   have hk := zB0 v
   have s3 := zAa x v
   have s4 := zC2 (w4 s) (zNG x) k1 (by omega) (by omega)
   rw [q2] at s2
   rw [q2, if_pos rfl]
   have hw : IntKind.i64.wrap ((s.length : Int) - 1) = ((s.length - 1 : Nat) : Int) := by rw [wrap_i64 (by omega) (by omega)]; omega
   have hn3 : s.length - 1 ≤ s.length := by omega
   have hle : s.take (s.length - 1) = w4 s := rfl
   generalize zNG x = y at *
   generalize w4 s = t at *
   generalize u0 t y = b at *
   generalize s.length - 1 = n at *
   clear q q2 v k3 k4
   refine q9 func71 rfl (fun E hE => ?_); simp only [go_sem, ntmps71]
   repeat' (first | (refine Qr rfl ?_; try intro _ hK; try simp only [go_sem, *]) | refine Qh rfl ?_ | refine Qd rfl (by kernel_rfl) ?_ | (refine Qc rfl rfl ?_ ?_ <;> (intro hb; have hc := hb; try simp only [go_sem] at hc)) | refine q8 rfl ?_ | (refine Qb ?_ ?_; focus kernel_rfl) | (refine x5 (s1) ?_ ?_; (focus (simp only [go_sem, *]; done)); simp only [go_sem, *]) | (refine x5 (s2) ?_ ?_; (focus (simp only [go_sem, *]; done)); simp only [go_sem, *]) | (refine x5 (s3) ?_ ?_; (focus (simp only [go_sem, *]; done)); simp only [go_sem, *]) | (refine x5 (s4) ?_ ?_; (focus (simp only [go_sem, *]; done)); simp only [go_sem, *]) | ((with_reducible apply And.intro); focus omega) | (refine q7 hK ?_; clear hK; simp only [go_sem, *]) | simp only [q6, z8, go_sem, *])
   all_goals first | contradiction | omega | skip
   (refine ⟨[_, _], [], [], ⟨rfl, rfl, trivial⟩, ?_⟩; simp only [go_sem, *])
  ·rw [if_neg q2]
   generalize x4 x = e at *
   clear q k3
   refine q9 func71 rfl (fun E hE => ?_); simp only [go_sem, ntmps71]
   repeat' (first | (refine Qr rfl ?_; try intro _ hK; try simp only [go_sem, *]) | refine Qh rfl ?_ | refine Qd rfl (by kernel_rfl) ?_ | (refine Qc rfl rfl ?_ ?_ <;> (intro hb; have hc := hb; try simp only [go_sem] at hc)) | refine q8 rfl ?_ | (refine Qb ?_ ?_; focus kernel_rfl) | (refine x5 (s1) ?_ ?_; (focus (simp only [go_sem, *]; done)); simp only [go_sem, *]) | (refine x5 (s2) ?_ ?_; (focus (simp only [go_sem, *]; done)); simp only [go_sem, *]) | ((with_reducible apply And.intro); focus omega) | (refine q7 hK ?_; clear hK; simp only [go_sem, *]) | simp only [q6, z8, go_sem, *])
   all_goals try contradiction
   (refine ⟨[_, _], [], [], ⟨rfl, rfl, trivial⟩, ?_⟩; simp only [go_sem, *])
theorem zMx (s : Str) (l : List Str) (hs : s.length ≤ 4294967296) (hl : l.length ≤ 4294967296) (hx : ∀ x, x ∈ l → x.length ≤ 4294967296) (q : ¬ Z4 s l = 0) : zNF prog 73 [sV s, y7 l] [] (.tup [.raw (.slice none 0 0), iV (Z4 s l)]) [] := by
 have s1 := zAZ s hs
 have s2 := zC3 l hl hx
 unfold Z4 at q ⊢
 cases q1 : r4 s with
 | false =>
  rw [q1, if_neg (by decide)] at s1
  rw [if_neg (by decide)]
  clear q q1 hx
  refine q9 func73 rfl (fun E hE => ?_); simp only [go_sem, ntmps73]
  repeat' (first | (refine Qr rfl ?_; try intro _ hK; try simp only [go_sem, *]) | refine Qh rfl ?_ | refine Qd rfl (by kernel_rfl) ?_ | (refine Qc rfl rfl ?_ ?_ <;> (intro hb; have hc := hb; try simp only [go_sem] at hc)) | refine q8 rfl ?_ | (refine Qb ?_ ?_; focus kernel_rfl) | (refine x5 (s1) ?_ ?_; (focus (simp only [go_sem, *]; done)); simp only [go_sem, *]) | ((with_reducible apply And.intro); focus omega) | (refine q7 hK ?_; clear hK; simp only [go_sem, *]) | simp only [q6, z8, go_sem, *])
  all_goals try contradiction
  (refine ⟨[_, _], [], [], ⟨rfl, rfl, trivial⟩, ?_⟩; simp only [go_sem, *])
 | true =>
  rw [q1, if_pos rfl] at s1
  rw [q1, if_pos rfl] at q
  rw [if_pos rfl]
  generalize u9 l = e at *
  clear q1 hx
  refine q9 func73 rfl (fun E hE => ?_); simp only [go_sem, ntmps73]
  repeat' (first | (refine Qr rfl ?_; try intro _ hK; try simp only [go_sem, *]) | refine Qh rfl ?_ | refine Qd rfl (by kernel_rfl) ?_ | (refine Qc rfl rfl ?_ ?_ <;> (intro hb; have hc := hb; try simp only [go_sem] at hc)) | refine q8 rfl ?_ | (refine Qb ?_ ?_; focus kernel_rfl) | (refine x5 (s1) ?_ ?_; (focus (simp only [go_sem, *]; done)); simp only [go_sem, *]) | (refine x5 (s2) ?_ ?_; (focus (simp only [go_sem, *]; done)); simp only [go_sem, *]) | ((with_reducible apply And.intro); focus omega) | (refine q7 hK ?_; clear hK; simp only [go_sem, *]) | simp only [q6, z8, go_sem, *])
  all_goals try contradiction
  (refine ⟨[_, _], [], [], ⟨rfl, rfl, trivial⟩, ?_⟩; simp only [go_sem, *])
theorem zMy (s : Str) (l : List Str) (q : Z4 s l = 0) : zNF prog 73 [sV s, y7 l] [] (.tup [.own 0 1 0 (zNv s l).length, iV 0]) [.row 1 ((zNv s l).map iV)] := by
 have q1 : r4 s = true := by
  cases h : r4 s with
  | true => rfl
  | false => unfold Z4 at q; rw [h, if_neg (by decide)] at q; cases q
 have q2 : u9 l = 0 := by unfold Z4 at q; rwa [q1, if_pos rfl] at q
 obtain ⟨k1, k2, k3, k4⟩ := E2 q1
 have hv := K4 q2
 have h6 := G4 q2
 have s1 := zAZ s (by omega)
 have s2 := zC3 l (by omega) (fun x hx => by have := (hv x hx).len; omega)
 have s3 := fun i (hi : i < l.length) => zAa (l.getD i default) (hv _ (o7 hi))
 have s4 := fun i (hi : i < l.length) => zC2 (w4 s) (zNG (l.getD i default)) k1 (by omega) (by have := (zB0 (hv _ (o7 hi))).2; omega)
 rw [q1, if_pos rfl] at s1
 rw [q2] at s2
 have h0 : [] ++ j9 (w4 s) l 0 = zNv s l := rfl
 have hw : IntKind.i64.wrap ((s.length : Int) - 1) = ((s.length - 1 : Nat) : Int) := by rw [wrap_i64 (by omega) (by omega)]; omega
 have hn3 : s.length - 1 ≤ s.length := by omega
 have hle : s.take (s.length - 1) = w4 s := rfl
 generalize zNv s l = T at *
 generalize w4 s = k at *
 generalize s.length - 1 = n at *
 clear q q1 q2 k3 k4 hv
 refine q9 func73 rfl (fun E hE => ?_); simp only [go_sem, ntmps73]
 repeat' (first | (refine Qr rfl ?_; try intro _ hK; try simp only [go_sem, *]) | refine Qh rfl ?_ | refine Qd rfl (by kernel_rfl) ?_ | (refine Qc rfl rfl ?_ ?_ <;> (intro hb; have hc := hb; try simp only [go_sem] at hc)) | refine q8 rfl ?_ | (refine Qb ?_ ?_; focus kernel_rfl) | (refine x5 (s1) ?_ ?_; (focus (simp only [go_sem, *]; done)); simp only [go_sem, *]) | (refine x5 (s2) ?_ ?_; (focus (simp only [go_sem, *]; done)); simp only [go_sem, *]) | ((with_reducible apply And.intro); focus omega) | (refine q7 hK ?_; clear hK; simp only [go_sem, *]) | simp only [q6, z8, go_sem, *])
 all_goals first | contradiction | omega | skip
 refine c7 rfl (l.length) (fun i (xs : List Int) => xs ++ j9 k l i = T ∧ xs.length ≤ i) 42 (fun i xs => [(9, iV i), (8, .own 0 1 0 xs.length), (0, sV s), (1, y7 l)]) (fun i xs => [.row 1 (xs.map iV)]) [none] [] ([]) (by exact ⟨h0, by simp⟩) ?_; intro i xs hi hP
 clear h0 s1 s2
 obtain ⟨hP, hx⟩ := hP
 have hwi : IntKind.i64.wrap ((i : Int) + 1) = ((i + 1 : Nat) : Int) := t6 (by omega)
 by_cases hi2 : i < l.length
 ·have hii : (i : Int) < (l.length : Int) := by omega
  rw [zAe hi2] at hP
  have t3 := s3 i hi2
  have t4 := s4 i hi2
  clear s3 s4
  generalize hye : l.getD i default = y at *
  generalize zNG y = ky at *
  cases hb2 : u0 k ky with
  | true =>
   rw [hb2] at t4
   rw [hb2, if_pos rfl] at hP
   have hP : (xs ++ [(i : Int)]) ++ j9 k l (i + 1) = T := by rw [← hP]; simp
   clear hb2
   repeat' (first | (refine Qr rfl ?_; try intro _ hK; try simp only [go_sem, *]) | refine Qh rfl ?_ | refine Qd rfl (by kernel_rfl) ?_ | (refine Qc rfl rfl ?_ ?_ <;> (intro hb; have hc := hb; try simp only [go_sem] at hc)) | refine q8 rfl ?_ | (refine Qb ?_ ?_; focus kernel_rfl) | (refine x5 (t3) ?_ ?_; (focus (simp only [go_sem, *]; done)); simp only [go_sem, *]) | (refine x5 (t4) ?_ ?_; (focus (simp only [go_sem, *]; done)); simp only [go_sem, *]) | ((with_reducible apply And.intro); focus omega) | (refine q7 hK ?_; clear hK; simp only [go_sem, *]) | simp only [q6, z8, go_sem, *])
   all_goals first | contradiction | omega | skip
   exact p5 (i' := i + 1) [some 2] [] (xs ++ [(i : Int)]) (by exact ⟨hP, by simp; omega⟩)
  | false =>
   rw [hb2] at t4
   rw [hb2, if_neg (by decide)] at hP
   have hP : xs ++ j9 k l (i + 1) = T := hP
   clear hb2
   repeat' (first | (refine Qr rfl ?_; try intro _ hK; try simp only [go_sem, *]) | refine Qh rfl ?_ | refine Qd rfl (by kernel_rfl) ?_ | (refine Qc rfl rfl ?_ ?_ <;> (intro hb; have hc := hb; try simp only [go_sem] at hc)) | refine q8 rfl ?_ | (refine Qb ?_ ?_; focus kernel_rfl) | (refine x5 (t3) ?_ ?_; (focus (simp only [go_sem, *]; done)); simp only [go_sem, *]) | (refine x5 (t4) ?_ ?_; (focus (simp only [go_sem, *]; done)); simp only [go_sem, *]) | ((with_reducible apply And.intro); focus omega) | (refine q7 hK ?_; clear hK; simp only [go_sem, *]) | simp only [q6, z8, go_sem, *])
   all_goals first | contradiction | omega | skip
   exact p5 (i' := i + 1) [some 0] [] (xs) (by exact ⟨hP, by omega⟩)
 ·have hii : ¬ (i : Int) < (l.length : Int) := by omega
  rw [zAd (by omega), List.append_nil] at hP
  subst hP
  clear s3 s4
  repeat' (first | (refine Qr rfl ?_; try intro _ hK; try simp only [go_sem, *]) | refine Qh rfl ?_ | refine Qd rfl (by kernel_rfl) ?_ | (refine Qc rfl rfl ?_ ?_ <;> (intro hb; have hc := hb; try simp only [go_sem] at hc)) | refine q8 rfl ?_ | (refine Qb ?_ ?_; focus kernel_rfl) | ((with_reducible apply And.intro); focus omega) | (refine q7 hK ?_; clear hK; simp only [go_sem, *]) | simp only [q6, z8, go_sem, *])
  all_goals first | contradiction | omega | skip
  refine ⟨[_, _], [some 0], [], ⟨rfl, rfl, trivial⟩, ?_⟩
  simp only [go_sem, *]
end Go.Abs

namespace Go.Abs
open Go Go.Proofs Tryz
structure Stop (p : Prop) : Prop where
 it : p
theorem zM2 {P : Program} {E : Env} {b : Code} {Q : Exit → AS → Prop} {σ : AS} (p : List Nat) (h : Stop (Hold P E (sub p b) Q σ)) : Hold P E (sub p b) Q σ := h.it
theorem zCP : ∀ {l : List Str}, (∀ s, s ∈ l → ValidN s) → v6 l = 0
 | [], _ => rfl
 | x :: r, h => by
  rw [v6, if_pos (checkN_zero.2 (h x (by simp))), zCP (l := r) (fun s hs => h s (by simp [hs]))]
theorem zGO {l : List Str} (hv : ∀ s, s ∈ l → ValidN s) (h6 : l.length ≤ 6) : u9 l = 0 := by
 unfold u9
 rw [if_neg (by omega), zCP hv]
theorem zF2 {l : List Str} (hv : ∀ s, s ∈ l → ValidN s) (h6 : l.length ≤ 6) {k : Nat} (hk : k < l.length) : j4 l k = 0 := by
 unfold j4
 rw [if_pos (zGO hv h6), if_neg (by omega)]
theorem zMm {l : List Str} (hv : ∀ s, s ∈ l → ValidN s) (h6 : l.length ≤ 6) {k : Nat} (hk : k < l.length) :
  (∃ s, zNN l (zNG (l.getD k default)) 12 true = some s ∧ N5 l k = 0 ∧ N6 l k = s ++ [46]) ∨ (zNN l (zNG (l.getD k default)) 12 true = none ∧ N5 l k = 11 ∧ N6 l k = []) := by
 have hi := zF2 hv h6 hk
 have e : t8 l (k : Int) = zNG (l.getD k default) := rfl
 unfold N5 N6
 rw [if_pos hi, if_pos hi, e]
 cases zNN l (zNG (l.getD k default)) 12 true with
 | none => exact .inr ⟨rfl, rfl, rfl⟩
 | some s => exact .inl ⟨s, rfl, rfl, rfl⟩
abbrev j0 (d : Dice) : Prop := d.list.length ≤ 4294967296
theorem zLV (d : Dice) (many most : Int) (h : j0 d) (hm : 0 ≤ many ∧ many ≤ 1000) (h1 : 1 ≤ most ∧ most ≤ 1000) : ∃ (l : List Str) (d' : Dice), zNF prog 24 [.ptr 0 0, iV many, iV most] [w7 d] (.own 1 1 0 l.length) [w7 d', .row 1 (l.map sV)] ∧
  (∀ s, s ∈ l → ValidN s) ∧ (l.length : Int) ≤ many ∧ j0 d' := by
 obtain ⟨a, b, c⟩ := zGg (d := d) hm.1 h1.1
 exact ⟨_, _, zH4 d many most h hm h1, fun s hs => (a s hs).1, b, by unfold j0; rw [c]; exact h⟩
theorem zLU (d : Dice) (most : Int) (h : j0 d) (h1 : 1 ≤ most ∧ most ≤ 1000) : ∃ (s : Str) (d' : Dice), zNF prog 25 [.ptr 0 0, iV most] [w7 d] (sV s) [w7 d'] ∧ ValidN s ∧ j0 d' := by
 obtain ⟨a, b, c⟩ := zAH (d := d) h1.1
 exact ⟨_, _, zCu d most h h1, a, by unfold j0; rw [c]; exact h⟩
theorem zM8 (d : Dice) (n : Int) (h : j0 d) (hn : 0 ≤ n ∧ n ≤ 4294967296) : ∃ (k : Nat) (d' : Dice), zNF prog 26 [.ptr 0 0, iV n] [w7 d] (iV k) [w7 d'] ∧ (k : Int) ≤ n ∧ j0 d' := by
 have hle := b8 hn.1 d
 obtain ⟨k, hk⟩ : ∃ k : Nat, toN n d = k := ⟨_, (Int.toNat_of_nonneg hle.1).symm⟩
 refine ⟨k, toD n d, ?_, by omega, by unfold j0; rw [p6]; exact h⟩
 have := X7 d n h hn.2
 rwa [hk] at this
theorem zKX (l : List Int) (h : l.length ≤ 4294967296) : ∃ d : Dice, zNF prog 23 [T1 l] [] (.ptr 0 0) [w7 d] ∧ j0 d := ⟨_, zH5 l, h⟩
theorem zLS {l : List Str} {x : Str} (hv : ∀ s, s ∈ l → ValidN s) (v : ValidN x) : ∃ m : List Str, l.map sV ++ [sV x] = m.map sV ∧ m.length = l.length + 1 ∧ (∀ s, s ∈ m → ValidN s) ∧ m = l ++ [x] :=
 ⟨l ++ [x], by simp, by simp, fun s hs => by
  rcases List.mem_append.1 hs with hs | hs
  ·exact hv s hs
  ·rw [List.mem_singleton.1 hs]; exact v, rfl⟩
end Go.Abs

namespace Go.Abs
open Go Go.Proofs Tryz
attribute [local irreducible] y4 Hold y9
theorem zAS (key : Str) : ∀ (n i : Nat) (d : Dice) (s : Str), 1 ≤ i → i + n = key.length → (∃ t : Str, (r8 key n i d s).1 = s ++ t ∧ t.Sublist (key.drop i)) ∧ (r8 key n i d s).2.list = d.list
 | 0, i, d, s, _, h => ⟨⟨[], by simp [r8], List.nil_sublist _⟩, rfl⟩
 | n + 1, i, d, s, h1, h => by
  have hd : key.drop i = key.getD i 0 :: key.drop (i + 1) := by
   rw [List.drop_eq_getElem_cons (by omega)]; simp [List.getD, show i < key.length by omega]
  rw [r8, if_neg (by omega)]
  by_cases q : c9 2 d = true
  ·rw [if_pos q]
   obtain ⟨⟨t, e, hs⟩, hl⟩ := zAS key n (i + 1) (w3 2 d) (s ++ [key.getD i 0]) (by omega) (by omega)
   refine ⟨⟨key.getD i 0 :: t, by rw [e]; simp, ?_⟩, hl.trans (p6 _ _)⟩
   rw [hd]; exact hs.cons_cons _
  ·rw [if_neg q]
   obtain ⟨⟨t, e, hs⟩, hl⟩ := zAS key n (i + 1) (w3 2 d) s (by omega) (by omega)
   refine ⟨⟨t, e, ?_⟩, hl.trans (p6 _ _)⟩
   rw [hd]; exact hs.cons _
theorem zHa {key : Str} {n i : Nat} {d : Dice} {s : Str} (h : i ≠ 0) : r8 key (n + 1) i d s = if c9 2 d = true then r8 key n (i + 1) (w3 2 d) (s ++ [key.getD i 0]) else r8 key n (i + 1) (w3 2 d) s := by
 rw [r8, if_neg h]
theorem zH6 (d : Dice) (k : Str) (h : j0 d) (hk : k.length ≤ 1000) : zNF prog 69 [.ptr 0 0, sV k] [w7 d] (sV (I5 d k).1) [w7 (I5 d k).2] := by
 unfold I5
 obtain ⟨T, hT⟩ : ∃ T, r8 k k.length 0 d [] = T := ⟨_, rfl⟩
 rw [hT]
 have h0 : r8 k (k.length - 0) 0 d [] = T := hT
 clear hT
 simp only
 refine q9 func69 rfl (fun E hE => ?_); simp only [go_sem, ntmps69]
 repeat' (first | (refine Qr rfl ?_; try intro _ hK; try simp only [go_sem, *]) | (refine Qi rfl rfl rfl rfl ?_ ?_ <;> (intro hb; (try intro _ hK); have hc := hb; try simp only [go_sem] at hc; simp only [go_sem, *])) | refine Qh rfl ?_ | (refine Qc rfl rfl ?_ ?_ <;> (intro hb; have hc := hb; try simp only [go_sem] at hc)) | refine q8 rfl ?_ | ((with_reducible apply And.intro); focus omega) | (refine q7 hK ?_; clear hK; simp only [go_sem, *]) | simp only [q6, z8, go_sem, *])
 all_goals try contradiction
 refine O0 rfl (k.length) (fun i (dd : Dice) (s : Str) => r8 k (k.length - i) i dd s = T ∧ j0 dd ∧ s.length ≤ i) 28 (fun i dd s => [(6, iV i), (5, sV s), (0, .ptr 0 0), (1, sV k)]) (fun i dd s => [w7 dd]) [some 0] [] (d) ([]) (by exact ⟨h0, h, by simp⟩) ?_; intro i dd s hi hP
 clear h0 h
 obtain ⟨hP, hdd, hsl⟩ := hP
 have hwi : IntKind.i64.wrap ((i : Int) + 1) = ((i + 1 : Nat) : Int) := t6 (by omega)
 by_cases hi2 : i < k.length
 ·have hii : (i : Int) < (k.length : Int) := by omega
  have hi1 : i + 1 ≤ k.length := by omega
  have hc1 : List.drop i (List.take (i + 1) k) = [k.getD i 0] := by
   rw [List.drop_take, show i + 1 - i = 1 by omega, List.drop_eq_getElem_cons hi2, List.take_succ_cons, List.take_zero]; simp [List.getD, hi2]
  rw [show k.length - i = (k.length - (i + 1)) + 1 by omega] at hP
  by_cases q0 : i = 0
  ·have q0b : ((i : Int) == 0) = true := by rw [q0]; rfl
   have hP2 : r8 k (k.length - (i + 1)) (i + 1) dd (s ++ [k.getD i 0]) = T := by rw [← hP, r8, if_pos q0]
   clear hP q0
   repeat' (first | (refine Qr rfl ?_; try intro _ hK; try simp only [go_sem, *]) | (refine Qi rfl rfl rfl rfl ?_ ?_ <;> (intro hb; (try intro _ hK); have hc := hb; try simp only [go_sem] at hc; simp only [go_sem, *])) | refine Qh rfl ?_ | (refine Qc rfl rfl ?_ ?_ <;> (intro hb; have hc := hb; try simp only [go_sem] at hc)) | refine q8 rfl ?_ | ((with_reducible apply And.intro); focus omega) | (refine q7 hK ?_; clear hK; simp only [go_sem, *]) | simp only [q6, z8, go_sem, *])
   all_goals first | contradiction | omega | skip
   exact i7 (i' := i + 1) [some 0] [] (dd) (s ++ [k.getD i 0]) (by exact ⟨hP2, hdd, by simp; omega⟩)
  ·have q0b : ((i : Int) == 0) = false := by rw [beq_eq_false_iff_ne]; omega
   rw [zHa q0] at hP
   have so := E4 dd 2 hdd (by omega)
   have hd2 : j0 (w3 2 dd) := by unfold j0 w3; rw [p6]; exact hdd
   generalize w3 2 dd = d2 at *
   generalize c9 2 dd = t at *
   cases t
   ·rw [if_neg (by decide)] at hP
    repeat' (first | (refine Qr rfl ?_; try intro _ hK; try simp only [go_sem, *]) | (refine Qi rfl rfl rfl rfl ?_ ?_ <;> (intro hb; (try intro _ hK); have hc := hb; try simp only [go_sem] at hc; simp only [go_sem, *])) | refine Qh rfl ?_ | (refine Qc rfl rfl ?_ ?_ <;> (intro hb; have hc := hb; try simp only [go_sem] at hc)) | refine q8 rfl ?_ | ((with_reducible apply And.intro); focus omega) | (refine q7 hK ?_; clear hK; simp only [go_sem, *]) | simp only [q6, z8, go_sem, *])
    all_goals first | contradiction | omega | skip
    refine v8 [0] so ?_
    simp only [go_sem, *]
    repeat' (first | (refine Qr rfl ?_; try intro _ hK; try simp only [go_sem, *]) | (refine Qi rfl rfl rfl rfl ?_ ?_ <;> (intro hb; (try intro _ hK); have hc := hb; try simp only [go_sem] at hc; simp only [go_sem, *])) | refine Qh rfl ?_ | (refine Qc rfl rfl ?_ ?_ <;> (intro hb; have hc := hb; try simp only [go_sem] at hc)) | refine q8 rfl ?_ | ((with_reducible apply And.intro); focus omega) | (refine q7 hK ?_; clear hK; simp only [go_sem, *]) | simp only [q6, z8, go_sem, *])
    all_goals first | contradiction | omega | skip
    exact i7 (i' := i + 1) [some 0] [] (d2) (s) (by exact ⟨hP, hd2, by omega⟩)
   ·rw [if_pos rfl] at hP
    repeat' (first | (refine Qr rfl ?_; try intro _ hK; try simp only [go_sem, *]) | (refine Qi rfl rfl rfl rfl ?_ ?_ <;> (intro hb; (try intro _ hK); have hc := hb; try simp only [go_sem] at hc; simp only [go_sem, *])) | refine Qh rfl ?_ | (refine Qc rfl rfl ?_ ?_ <;> (intro hb; have hc := hb; try simp only [go_sem] at hc)) | refine q8 rfl ?_ | ((with_reducible apply And.intro); focus omega) | (refine q7 hK ?_; clear hK; simp only [go_sem, *]) | simp only [q6, z8, go_sem, *])
    all_goals first | contradiction | omega | skip
    refine v8 [0] so ?_
    simp only [go_sem, *]
    repeat' (first | (refine Qr rfl ?_; try intro _ hK; try simp only [go_sem, *]) | (refine Qi rfl rfl rfl rfl ?_ ?_ <;> (intro hb; (try intro _ hK); have hc := hb; try simp only [go_sem] at hc; simp only [go_sem, *])) | refine Qh rfl ?_ | (refine Qc rfl rfl ?_ ?_ <;> (intro hb; have hc := hb; try simp only [go_sem] at hc)) | refine q8 rfl ?_ | ((with_reducible apply And.intro); focus omega) | (refine q7 hK ?_; clear hK; simp only [go_sem, *]) | simp only [q6, z8, go_sem, *])
    all_goals first | contradiction | omega | skip
    exact i7 (i' := i + 1) [some 0] [] (d2) (s ++ [k.getD i 0]) (by exact ⟨hP, hd2, by simp; omega⟩)
 ·have hii : ¬ (i : Int) < (k.length : Int) := by omega
  rw [show k.length - i = 0 by omega] at hP
  have hP : (s, dd) = T := hP
  subst hP
  simp only
  have hsl2 : s.length ≤ 1000 := by omega
  repeat' (first | (refine Qr rfl ?_; try intro _ hK; try simp only [go_sem, *]) | (refine Qi rfl rfl rfl rfl ?_ ?_ <;> (intro hb; (try intro _ hK); have hc := hb; try simp only [go_sem] at hc; simp only [go_sem, *])) | refine Qh rfl ?_ | (refine Qc rfl rfl ?_ ?_ <;> (intro hb; have hc := hb; try simp only [go_sem] at hc)) | refine q8 rfl ?_ | ((with_reducible apply And.intro); focus omega) | (refine q7 hK ?_; clear hK; simp only [go_sem, *]) | simp only [q6, z8, go_sem, *])
  all_goals first | contradiction | omega | skip
  refine ⟨[_], [some 0], [], ⟨rfl, trivial⟩, ?_⟩
  simp only [go_sem, *]
theorem zMl (d : Dice) (k : Str) (h : j0 d) (hk : k.length ≤ 1000) : ∃ (t : Str) (d' : Dice), zNF prog 69 [.ptr 0 0, sV k] [w7 d] (sV (t ++ [46])) [w7 d'] ∧ j0 d' ∧ t.length ≤ k.length ∧ (0 < k.length → ∃ u : Str, t = k.take 1 ++ u ∧ u.Sublist (k.drop 1)) := by
 refine ⟨_, _, zH6 d k h hk, ?_⟩
 cases hn : k.length with
 | zero =>
  have e : k = [] := List.eq_nil_of_length_eq_zero hn
  subst e
  exact ⟨h, Nat.le_refl _, fun h => absurd h (Nat.lt_irrefl _)⟩
 | succ n =>
  obtain ⟨⟨t, e, hs⟩, hl⟩ := zAS k n 1 d [k.getD 0 0] (Nat.le_refl _) (by omega)
  have e1 : r8 k k.length 0 d [] = r8 k n 1 d [k.getD 0 0] := by rw [hn, r8, if_pos rfl]; rfl
  have e3 : r8 k (n + 1) 0 d [] = r8 k n 1 d [k.getD 0 0] := by rw [r8, if_pos rfl]; rfl
  have hk1 : k.take 1 = [k.getD 0 0] := by
   cases k with
   | nil => simp at hn
   | cons a r => rfl
  have e2 : (I5 d k).2 = (r8 k n 1 d [k.getD 0 0]).2 := by unfold I5; rw [e1]
  refine ⟨?_, ?_, fun _ => ⟨t, ?_, hs⟩⟩
  ·rw [e2]; unfold j0; rw [hl]; exact h
  ·rw [e3, e, ← hk1]
   have := hs.length_le
   simp at this ⊢; omega
  ·rw [e3, e, hk1]
end Go.Abs

namespace Go.Abs
open Go Go.Proofs Tryz
attribute [local irreducible] y4 Hold y9
theorem zMr {s : Str} (v : ValidN s) : zNF prog 37 [sV s] [] (.tup [sV (zNG s), iV 0]) [] := by
 have := zCt s
 rw [v.check, if_pos rfl] at this
 exact this
end Go.Abs

