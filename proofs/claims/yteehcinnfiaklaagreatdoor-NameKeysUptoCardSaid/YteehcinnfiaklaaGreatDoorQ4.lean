/-
  WHAT THE PROOF STANDS ON, PART 4: contracts of the program's functions and the logic that they are proved in. No condition.
-/
import Derived.Test.YteehcinnfiaklaaGreatDoorQ3
set_option maxRecDepth 100000
set_option maxHeartbeats 4000000
set_option linter.unusedVariables false
set_option linter.unusedSimpArgs false
set_option linter.unusedSectionVars false
namespace Go.Abs
open Go Go.Proofs Tryz
attribute [local irreducible] y3 Hold y8
def Bc : Nat → Nat
 | 0 => 1
 | n + 1 => 1 + (n + 1) * Bc n
theorem zCs : ∀ n, n < 13 → Bc n ≤ 2000000000 := by decide
theorem zBj (k : Str) (m : List Str) (now : Str) : (zLg k m now).length ≤ m.length + 1 := by
 unfold zLg zLk
 split
 ·split
  ·omega
  ·simp
 ·omega
theorem zA1 (k : Str) : ∀ (n : Nat) (m : List Str) (now : Str) (i : Nat), k.length - i ≤ n → (goC k n m now i).length ≤ m.length + Bc n
 | 0, m, now, i, _ => zBj k m now
 | n + 1, m, now, i, h => by
  have key : ∀ (c : Nat) (i : Nat) (m : List Str), k.length - i = c → c ≤ n + 1 → (c9 k n m now i).length ≤ m.length + c * Bc n := by
   intro c
   induction c with
   | zero => intro i m h1 _; rw [J3 (by omega)]; omega
   | succ c ih =>
    intro i m h1 h2
    rw [D1 (by omega)]
    have a := ih (i + 1) (goC k n m (now ++ [k.getD i 0]) (i + 1)) (by omega) (by omega)
    have b := zA1 k n m (now ++ [k.getD i 0]) (i + 1) (by omega)
    have e : (c + 1) * Bc n = c * Bc n + Bc n := Nat.succ_mul _ _
    omega
  rw [D2]
  have a := key (k.length - i) i (zLg k m now) rfl h
  have b := zBj k m now
  have d : (k.length - i) * Bc n ≤ (n + 1) * Bc n := Nat.mul_le_mul_right _ h
  have e : Bc (n + 1) = 1 + (n + 1) * Bc n := rfl
  omega
theorem zAf {k : Str} (hk : k.length ≤ 12) (hk0 : 0 < k.length) : (X0 k).length ≤ 2000000000 := by
 have a := zA1 k k.length [] (k.take 1) 1 (by omega)
 have b := zCs k.length (by omega)
 have e : X0 k = goC k k.length [] (k.take 1) 1 := rfl
 rw [e]; simp only [List.length_nil] at a; omega
theorem C5 {α β : Type} (f : α → β) : ∀ (l : List α) (i : Nat), (l.eraseIdx i).map f = (l.map f).eraseIdx i
 | [], _ => rfl
 | _ :: _, 0 => rfl
 | x :: r, i + 1 => by simp [C5 f r i]
theorem zAj {α : Type} : ∀ (l : List α) (i : Nat) (h : i < l.length), l.Perm (l[i] :: l.eraseIdx i)
 | x :: r, 0, _ => .refl _
 | x :: r, i + 1, h => by
  have := zAj r i (by simpa using h)
  exact (this.cons x).trans (List.Perm.swap _ _ _)
theorem zG0 (k : Str) (hk0 : 0 < k.length) (hk : k.length ≤ 12) :
  O3 (T := {L : List Str // (∀ s, s ∈ L ↔ Z7 k s) ∧ L.length ≤ 2000000000}) prog 115 [sV k] [] (fun L => .own 0 1 0 L.1.length) (fun L => [.row 1 (L.1.map sV)]) := by
 have hca : u7 prog 140 = true := by kernel_rfl
 have sc : zLP prog 140 (zAd (k.take 1) 1) (Y8 k []) (.tup []) (Y8 k (X0 k)) := zCL k (by omega) k.length [] (k.take 1) 1 (by omega) (by simp; omega) (by omega) (fun x hx => by cases hx)
 have hmem := fun x => zBi (k := k) (x := x)
 have hsm : SmallL (X0 k) := SmallL.go (fun x hx => by cases hx) (by omega) (by omega)
 have hML := zAf hk hk0
 have hmt : (zLx prog 155).isSome = true := by kernel_rfl
 generalize X0 k = M at *
 refine zHY func115 rfl (fun E hE => ?_); simp only [go_sem, ntmps115]
 repeat' (first | (refine Qr rfl ?_; try intro _ hK; try simp only [go_sem, *]) | (refine Qi rfl rfl rfl rfl ?_ ?_ <;> (intro hb; (try intro _ hK); have hc := hb; try simp only [go_sem] at hc; simp only [go_sem, *])) | refine Qh rfl ?_ | refine Qd rfl (by kernel_rfl) ?_ | (refine Qc rfl rfl ?_ ?_ <;> (intro hb; have hc := hb; try simp only [go_sem] at hc)) | refine q8 rfl ?_ | (refine Qb ?_ ?_; focus kernel_rfl) | ((with_reducible apply And.intro); focus omega) | (refine q7 hK ?_; clear hK; simp only [go_sem, *]) | simp only [q6, z8, go_sem, *])
 refine w8 [0, 2, 3, 1] sc ?_
 simp only [go_sem, *]
 refine q7 hK ?_
 clear hK
 simp only [go_sem, *]
 repeat' (first | (refine Qr (ops := _ :: _) rfl ?_; try intro _ hK; try simp only [go_sem, *]) | (refine Qi rfl rfl rfl rfl ?_ ?_ <;> (intro hb; (try intro _ hK); have hc := hb; try simp only [go_sem] at hc; simp only [go_sem, *])) | (refine Qb ?_ ?_; focus kernel_rfl) | ((with_reducible apply And.intro); focus omega) | (refine q7 hK ?_; clear hK; simp only [go_sem, *]) | simp only [q6, z8, go_sem, *])
 refine t6 ?_
 refine Qb ?_ ?_
 focus kernel_rfl
 try simp only [q6, z8, go_sem, *]
 refine X6 (N := 24) (env := [(3, .ptr 0 0)]) (As := [.box [.fmap (M.map zLW) (M.map fun _ => bV true)]]) [some 2] [1] (by (simp only [Weak, go_sem, List.map_append, List.map_set, *] <;> (try simp (disch := omega) only [u5]) <;> (try simp) <;> (try omega))) ?_
 repeat' (first | (refine Qr rfl ?_; try intro _ hK; try simp only [go_sem, *]) | (refine Qi rfl rfl rfl rfl ?_ ?_ <;> (intro hb; (try intro _ hK); have hc := hb; try simp only [go_sem] at hc; simp only [go_sem, *])) | refine Qh rfl ?_ | refine Qd rfl (by kernel_rfl) ?_ | (refine Qc rfl rfl ?_ ?_ <;> (intro hb; have hc := hb; try simp only [go_sem] at hc)) | refine q8 rfl ?_ | (refine Qb ?_ ?_; focus kernel_rfl) | ((with_reducible apply And.intro); focus omega) | (refine q7 hK ?_; clear hK; simp only [go_sem, *]) | simp only [q6, z8, go_sem, *])
 clear sc hsm
 refine J8 rfl (M.length) (fun i (cur : Option (Value × AV)) (S : List Str × List Str) => S.1.length + i = M.length ∧ S.2.length = i ∧ ∀ x, (x ∈ S.2 ∨ x ∈ S.1) ↔ x ∈ M) 24 (fun i cur S => [(14, .ptr 0 0), (5, .own 1 1 0 i)]) (fun i cur S => [.iter cur (S.1.map zLW) (S.1.map fun _ => bV true), .row 1 (S.2.map sV)]) [some 1, none] [] (none) ((M, [])) (by exact ⟨by simp, rfl, fun x => by simp⟩) ?_; intro i cur S hi hP
 obtain ⟨rem, acc⟩ := S
 simp only at hP ⊢
 refine G0 rfl ?_
 refine zGE (o := 0) rfl rfl rfl rfl rfl rfl rfl cur (rem.map zLW) (rem.map fun _ => bV true) (by simp only [go_sem]) (by simp only [go_sem]) (show (15 : Nat) < 24 by decide) (show (16 : Nat) < 24 by decide) (fun hk0 _ => ?_) (fun r hr1 hr2 => ?_)
 ·obtain rfl : rem = [] := by simpa using hk0
  obtain ⟨h1, h2, h3⟩ := hP
  have hL : ∀ s, s ∈ acc ↔ Z7 k s := fun s => by rw [← hmem, ← h3]; simp
  have hLl : acc.length ≤ 2000000000 := by simp only [List.length_nil] at h1; omega
  clear hmem h3
  simp only [go_sem]
  repeat' (first | (refine Qr rfl ?_; try intro _ hK; try simp only [go_sem, *]) | (refine Qi rfl rfl rfl rfl ?_ ?_ <;> (intro hb; (try intro _ hK); have hc := hb; try simp only [go_sem] at hc; simp only [go_sem, *])) | refine Qh rfl ?_ | refine Qd rfl (by kernel_rfl) ?_ | (refine Qc rfl rfl ?_ ?_ <;> (intro hb; have hc := hb; try simp only [go_sem] at hc)) | refine q8 rfl ?_ | (refine Qb ?_ ?_; focus kernel_rfl) | ((with_reducible apply And.intro); focus omega) | (refine q7 hK ?_; clear hK; simp only [go_sem, *]) | simp only [q6, z8, go_sem, *])
  all_goals try contradiction
  refine ⟨⟨acc, hL, hLl⟩, [_], [some 1], [], ⟨rfl, trivial⟩, ?_⟩
  simp only [go_sem, *]
 ·have hr : r < rem.length := by simpa using hr1
  have e1 : (rem.map zLW)[r] = zLW rem[r] := by simp
  have e2 : (rem.map fun _ => bV true)[r] = bV true := by simp
  have e3 : (rem.map zLW).eraseIdx r = (rem.eraseIdx r).map zLW := (C5 zLW rem r).symm
  have e4 : (rem.map fun _ => bV true).eraseIdx r = (rem.eraseIdx r).map fun _ => bV true := (C5 _ rem r).symm
  rw [e1, e2, e3, e4]
  have hq : (rem[r] :: rem.eraseIdx r).Perm rem := (zAj rem r hr).symm
  have hel : (rem.eraseIdx r).length = rem.length - 1 := List.length_eraseIdx_of_lt hr
  clear e1 e2 e3 e4
  generalize rem.eraseIdx r = rem' at *
  generalize rem[r] = x at *
  obtain ⟨h1, h2, h3⟩ := hP
  have hP2 : rem'.length + (i + 1) = M.length ∧ (acc ++ [x]).length = i + 1 ∧ ∀ z, (z ∈ acc ++ [x] ∨ z ∈ rem') ↔ z ∈ M := ⟨by omega, by simp [h2], fun z => by
   rw [← h3, ← hq.mem_iff]; simp [or_assoc]⟩
  have hil : i < M.length := by omega
  clear hmem h1 h3 hq hel hr hr1 hr2
  simp only [go_sem]
  repeat' (first | (refine Qr rfl ?_; try intro _ hK; try simp only [go_sem, *]) | (refine Qi rfl rfl rfl rfl ?_ ?_ <;> (intro hb; (try intro _ hK); have hc := hb; try simp only [go_sem] at hc; simp only [go_sem, *])) | refine Qh rfl ?_ | refine Qd rfl (by kernel_rfl) ?_ | (refine Qc rfl rfl ?_ ?_ <;> (intro hb; have hc := hb; try simp only [go_sem] at hc)) | refine q8 rfl ?_ | (refine Qb ?_ ?_; focus kernel_rfl) | ((with_reducible apply And.intro); focus omega) | (refine q7 hK ?_; clear hK; simp only [go_sem, *]) | simp only [q6, z8, go_sem, *])
  all_goals try contradiction
  exact V6 (i' := i + 1) [some 0, some 3] [] ((some (zLW x, bV true))) ((rem', acc ++ [x])) (by exact hP2)
end Go.Abs

namespace Go.Abs
open Go Go.Proofs Tryz
attribute [local irreducible] y3 Hold y8
def zMh : Bool → Value
 | true => .func (.func 80) #[] #[]
 | false => .func (.func 83) #[] #[]
abbrev zLs (up : Bool) : AV := .raw (zMh up)
def zMN (up : Bool) (a b : Nat) : Int := if up = true then (a : Int) - b else (b : Int) - a
theorem zDT (up : Bool) (a b : Str) : zLT up a b = orI (zMN up a.length b.length) (zLS a b) := rfl
theorem zHI (a b : Nat) (ha : a ≤ 1000) (hb1 : b ≤ 1000) : zLP prog 80 [iV a, iV b] [] (iV ((a : Int) - b)) [] := by
 have hw : IntKind.i64.wrap ((a : Int) - b) = (a : Int) - b := wrap_i64 (by omega) (by omega)
 refine q9 func80 rfl (fun E hE => ?_); simp only [go_sem, ntmps80]
 repeat' (first | (refine Qr rfl ?_; try intro _ hK; try simp only [go_sem, *]) | refine Qh rfl ?_ | (refine Qc rfl rfl ?_ ?_ <;> (intro hb; have hc := hb; try simp only [go_sem] at hc)) | refine q8 rfl ?_ | ((with_reducible apply And.intro); focus omega) | (refine q7 hK ?_; clear hK; simp only [go_sem, *]) | simp only [q6, z8, go_sem, *])
 (refine ⟨[_], [], [], ⟨rfl, trivial⟩, ?_⟩; simp only [go_sem, *])
theorem zHH (a b : Nat) (ha : a ≤ 1000) (hb1 : b ≤ 1000) : zLP prog 83 [iV a, iV b] [] (iV ((b : Int) - a)) [] := by
 have hw : IntKind.i64.wrap ((b : Int) - a) = (b : Int) - a := wrap_i64 (by omega) (by omega)
 refine q9 func83 rfl (fun E hE => ?_); simp only [go_sem, ntmps83]
 repeat' (first | (refine Qr rfl ?_; try intro _ hK; try simp only [go_sem, *]) | refine Qh rfl ?_ | (refine Qc rfl rfl ?_ ?_ <;> (intro hb; have hc := hb; try simp only [go_sem] at hc)) | refine q8 rfl ?_ | ((with_reducible apply And.intro); focus omega) | (refine q7 hK ?_; clear hK; simp only [go_sem, *]) | simp only [q6, z8, go_sem, *])
 (refine ⟨[_], [], [], ⟨rfl, trivial⟩, ?_⟩; simp only [go_sem, *])
theorem zGz (up : Bool) (a b : Str) (ha : a.length ≤ 1000) (hb1 : b.length ≤ 1000) : zLP prog 118 [sV a, sV b, .ptr 0 0] [.box [zLs up]] (iV (zLT up a b)) [.box [zLs up]] := by
 have s1 := zHI a.length b.length ha hb1
 have s2 := zHH a.length b.length ha hb1
 have s3 := zCD a b
 have so := zCH [zMN up a.length b.length, zLS a b] (by simp)
 rw [zBq] at so
 rw [zDT]
 have hca : u7 prog 80 = true := by kernel_rfl
 have hcb : u7 prog 83 = true := by kernel_rfl
 cases up
 ·have e : zMN false a.length b.length = (b.length : Int) - a.length := rfl
  have ex : zLs false = .raw (.func (.func 83) #[] #[]) := rfl
  rw [e] at so ⊢
  rw [ex]
  generalize (b.length : Int) - a.length = n at *
  generalize zLS a b = c at *
  generalize orI n c = r at *
  clear e ex s1
  refine q9 func118 rfl (fun E hE => ?_); simp only [go_sem, ntmps118]
  repeat' (first | (refine Qr rfl ?_; try intro _ hK; try simp only [go_sem, *]) | refine Qh rfl ?_ | (refine Qc rfl rfl ?_ ?_ <;> (intro hb; have hc := hb; try simp only [go_sem] at hc)) | refine q8 rfl ?_ | (refine x6 (s2) ?_ ?_; (focus (simp only [go_sem, *]; done)); simp only [go_sem, *]) | (refine x6 (s3) ?_ ?_; (focus (simp only [go_sem, *]; done)); simp only [go_sem, *]) | ((with_reducible apply And.intro); focus omega) | (refine q7 hK ?_; clear hK; simp only [go_sem, *]) | simp only [q6, z8, go_sem, *])
  (refine Y7 [1] (so) (by simp only [go_sem, *]) (.raw _) ?_; simp only [go_sem, *])
  repeat' (first | (refine Qr rfl ?_; try intro _ hK; try simp only [go_sem, *]) | refine Qh rfl ?_ | (refine Qc rfl rfl ?_ ?_ <;> (intro hb; have hc := hb; try simp only [go_sem] at hc)) | refine q8 rfl ?_ | ((with_reducible apply And.intro); focus omega) | (refine q7 hK ?_; clear hK; simp only [go_sem, *]) | simp only [q6, z8, go_sem, *])
  refine ⟨[_], [some 0], [], ⟨rfl, trivial⟩, ?_⟩
  simp only [go_sem, *]
 ·have e : zMN true a.length b.length = (a.length : Int) - b.length := rfl
  have ex : zLs true = .raw (.func (.func 80) #[] #[]) := rfl
  rw [e] at so ⊢
  rw [ex]
  generalize (a.length : Int) - b.length = n at *
  generalize zLS a b = c at *
  generalize orI n c = r at *
  clear e ex s2
  refine q9 func118 rfl (fun E hE => ?_); simp only [go_sem, ntmps118]
  repeat' (first | (refine Qr rfl ?_; try intro _ hK; try simp only [go_sem, *]) | refine Qh rfl ?_ | (refine Qc rfl rfl ?_ ?_ <;> (intro hb; have hc := hb; try simp only [go_sem] at hc)) | refine q8 rfl ?_ | (refine x6 (s1) ?_ ?_; (focus (simp only [go_sem, *]; done)); simp only [go_sem, *]) | (refine x6 (s3) ?_ ?_; (focus (simp only [go_sem, *]; done)); simp only [go_sem, *]) | ((with_reducible apply And.intro); focus omega) | (refine q7 hK ?_; clear hK; simp only [go_sem, *]) | simp only [q6, z8, go_sem, *])
  (refine Y7 [1] (so) (by simp only [go_sem, *]) (.raw _) ?_; simp only [go_sem, *])
  repeat' (first | (refine Qr rfl ?_; try intro _ hK; try simp only [go_sem, *]) | refine Qh rfl ?_ | (refine Qc rfl rfl ?_ ?_ <;> (intro hb; have hc := hb; try simp only [go_sem] at hc)) | refine q8 rfl ?_ | ((with_reducible apply And.intro); focus omega) | (refine q7 hK ?_; clear hK; simp only [go_sem, *]) | simp only [q6, z8, go_sem, *])
  refine ⟨[_], [some 0], [], ⟨rfl, trivial⟩, ?_⟩
  simp only [go_sem, *]
noncomputable def zAp : Code := sub [0, 1, 0, 1, 1, 1] (Y5 Tryz.f116)
noncomputable def S1 (fn : FuncId) : LoopK := ⟨fn, #[10], P1 zAp, P2 zAp, 23⟩
def zAX : Option Str → AV
 | none => sV []
 | some c => sV c
@[go_sem] theorem zIt : zAX none = .raw (.string ⟨#[]⟩) := rfl
@[go_sem] theorem zIu (c : Str) : zAX (some c) = sV c := rfl
def e9 : Option Str → Value
 | none => .string ⟨#[]⟩
 | some c => .string ⟨c.toArray⟩
abbrev zDe : AV := .fn 118 [.ptr 4 0]
noncomputable abbrev i9 (fn : FuncId) (up : Bool) (B : Option Str) : List AObj := [.loopo (S1 fn) [(3, .ptr 1 0), (6, .ptr 2 0), (7, .ptr 3 0)] (some none), .box [zDe], .box [.raw (e9 B)], .box [bV B.isSome], .box [zLs up]]
theorem zIE (fn : FuncId) (up : Bool) (c : Str) : j7 prog [sV c] (i9 fn up none) (bV true) (i9 fn up (some c)) := by
 simp only [i9, e9, Option.isSome_none, Option.isSome_some]
 refine U5 (L := S1 fn) (env := [(3, .ptr 1 0), (6, .ptr 2 0), (7, .ptr 3 0)]) (j := none) rfl rfl (fun E l hE => ?_)
 refine o4 rfl ?_
 simp only [S1, i6, go_sem]
 repeat' (first | (refine Qr (ops := _ :: _) rfl ?_; try intro _ hK; try simp only [go_sem, *]) | (refine Qi rfl rfl rfl rfl ?_ ?_ <;> (intro hb; (try intro _ hK); have hc := hb; try simp only [go_sem] at hc; simp only [go_sem, *])) | (refine Qb ?_ ?_; focus kernel_rfl) | ((with_reducible apply And.intro); focus omega) | (refine q7 hK ?_; clear hK; simp only [go_sem, *]) | simp only [q6, z8, go_sem, *])
 refine t6 ?_
 refine ⟨by simp only [go_sem], ?_⟩
 refine U0 (id := 1) rfl ?_
 refine b7 rfl ?_
 refine o4 rfl ?_
 simp only [go_sem]
 repeat' (first | (refine Qr (ops := _ :: _) rfl ?_; try intro _ hK; try simp only [go_sem, *]) | (refine Qi rfl rfl rfl rfl ?_ ?_ <;> (intro hb; (try intro _ hK); have hc := hb; try simp only [go_sem] at hc; simp only [go_sem, *])) | (refine Qb ?_ ?_; focus kernel_rfl) | ((with_reducible apply And.intro); focus omega) | (refine q7 hK ?_; clear hK; simp only [go_sem, *]) | simp only [q6, z8, go_sem, *])
 refine t6 ?_
 refine W2 (t := true) rfl (by simp only [go_sem]) (fun _ => ?_) (fun h => by cases h)
 refine o4 rfl ?_
 simp only [go_sem]
 repeat' (first | (refine Qr (ops := _ :: _) rfl ?_; try intro _ hK; try simp only [go_sem, *]) | (refine Qi rfl rfl rfl rfl ?_ ?_ <;> (intro hb; (try intro _ hK); have hc := hb; try simp only [go_sem] at hc; simp only [go_sem, *])) | (refine Qb ?_ ?_; focus kernel_rfl) | ((with_reducible apply And.intro); focus omega) | (refine q7 hK ?_; clear hK; simp only [go_sem, *]) | simp only [q6, z8, go_sem, *])
 refine t6 ?_
 simp only [z8, go_sem]
 refine ⟨rfl, [some 0, some 1, some 2, some 3, some 4], [], ?_⟩
 simp only [go_sem, *]
theorem zIF (fn : FuncId) (up : Bool) (b c : Str) (hb1 : b.length ≤ 1000) (hc1 : c.length ≤ 1000) : j7 prog [sV c] (i9 fn up (some b)) (bV true) (i9 fn up (some (if zLT up c b < 0 then c else b))) := by
 have hca : u7 prog 118 = true := by kernel_rfl
 have sc := zGz up c b hc1 hb1
 simp only [i9, e9, Option.isSome_none, Option.isSome_some]
 refine U5 (L := S1 fn) (env := [(3, .ptr 1 0), (6, .ptr 2 0), (7, .ptr 3 0)]) (j := none) rfl rfl (fun E l hE => ?_)
 refine o4 rfl ?_
 simp only [S1, i6, go_sem]
 repeat' (first | (refine Qr (ops := _ :: _) rfl ?_; try intro _ hK; try simp only [go_sem, *]) | (refine Qi rfl rfl rfl rfl ?_ ?_ <;> (intro hb; (try intro _ hK); have hc := hb; try simp only [go_sem] at hc; simp only [go_sem, *])) | (refine Qb ?_ ?_; focus kernel_rfl) | ((with_reducible apply And.intro); focus omega) | (refine q7 hK ?_; clear hK; simp only [go_sem, *]) | simp only [q6, z8, go_sem, *])
 refine t6 ?_
 refine ⟨by simp only [go_sem], ?_⟩
 refine U0 (id := 1) rfl ?_
 refine b7 rfl ?_
 refine o4 rfl ?_
 simp only [go_sem]
 repeat' (first | (refine Qr (ops := _ :: _) rfl ?_; try intro _ hK; try simp only [go_sem, *]) | (refine Qi rfl rfl rfl rfl ?_ ?_ <;> (intro hb; (try intro _ hK); have hc := hb; try simp only [go_sem] at hc; simp only [go_sem, *])) | (refine Qb ?_ ?_; focus kernel_rfl) | ((with_reducible apply And.intro); focus omega) | (refine q7 hK ?_; clear hK; simp only [go_sem, *]) | simp only [q6, z8, go_sem, *])
 refine w8 [4] sc ?_
 simp only [go_sem]
 repeat' (first | (refine Qr (ops := _ :: _) rfl ?_; try intro _ hK; try simp only [go_sem, *]) | (refine Qi rfl rfl rfl rfl ?_ ?_ <;> (intro hb; (try intro _ hK); have hc := hb; try simp only [go_sem] at hc; simp only [go_sem, *])) | (refine Qb ?_ ?_; focus kernel_rfl) | ((with_reducible apply And.intro); focus omega) | (refine q7 hK ?_; clear hK; simp only [go_sem, *]) | simp only [q6, z8, go_sem, *])
 refine t6 ?_
 refine W2 (t := decide (zLT up c b < 0)) rfl (by simp only [go_sem]) (fun h => ?_) (fun h => ?_)
 ·rw [if_pos (by simpa using h)]
  refine o4 rfl ?_
  simp only [go_sem]
  repeat' (first | (refine Qr (ops := _ :: _) rfl ?_; try intro _ hK; try simp only [go_sem, *]) | (refine Qi rfl rfl rfl rfl ?_ ?_ <;> (intro hb; (try intro _ hK); have hc := hb; try simp only [go_sem] at hc; simp only [go_sem, *])) | (refine Qb ?_ ?_; focus kernel_rfl) | ((with_reducible apply And.intro); focus omega) | (refine q7 hK ?_; clear hK; simp only [go_sem, *]) | simp only [q6, z8, go_sem, *])
  refine t6 ?_
  simp only [z8, go_sem]
  refine ⟨rfl, [some 0, some 1, some 2, some 3, some 4], [], ?_⟩
  simp only [go_sem, *]
 ·rw [if_neg (by simpa using h)]
  refine M9 rfl ?_
  simp only [z8, go_sem]
  refine ⟨rfl, [some 0, some 1, some 2, some 3, some 4], [], ?_⟩
  simp only [go_sem, *]
theorem zID (fn : FuncId) (up : Bool) (B : Option Str) (c : Str) (hb1 : ∀ b, B = some b → b.length ≤ 1000) (hc1 : c.length ≤ 1000) : j7 prog [sV c] (i9 fn up B) (bV true) (i9 fn up (x4 (zLT up) B [c])) := by
 cases B with
 | none => exact zIE fn up c
 | some b =>
  have := zIF fn up b c (hb1 b rfl) hc1
  rw [zAq]
  by_cases h : zLT up c b < 0
  ·simp only [if_pos h] at this ⊢; exact this
  ·simp only [if_neg h] at this ⊢; exact this
end Go.Abs

namespace Go.Abs
open Go Go.Proofs Tryz
attribute [local irreducible] y3 Hold y8
theorem zGu (fn : FuncId) (up : Bool) (L : List Str) (B : Option Str) (hL : L.length ≤ 2000000000) (hs : ∀ s, s ∈ L → s.length ≤ 1000) (hB : ∀ b, B = some b → b.length ≤ 1000) :
  zLP prog 141 [.yld 0, .ptr 5 0] (i9 fn up B ++ [.box [y6 L]]) (.tup []) (i9 fn up (x4 (zLT up) B L) ++ [.box [y6 L]]) := by
 obtain ⟨T, hT⟩ : ∃ T, x4 (zLT up) B L = T := ⟨_, rfl⟩
 rw [hT]
 have h0 : x4 (zLT up) B (L.drop 0) = T := hT
 clear hT
 simp only [i9, List.cons_append, List.nil_append]
 refine q9 func141 rfl (fun E hE => ?_); simp only [go_sem, ntmps141]
 repeat' (first | (refine Qr rfl ?_; try intro _ hK; try simp only [go_sem, *]) | refine Qh rfl ?_ | (refine Qc rfl rfl ?_ ?_ <;> (intro hb; have hc := hb; try simp only [go_sem] at hc)) | refine q8 rfl ?_ | ((with_reducible apply And.intro); focus omega) | (refine q7 hK ?_; clear hK; simp only [go_sem, *]) | simp only [q6, z8, go_sem, *])
 refine c0 rfl (L.length) (fun i (Z : Option Str) => x4 (zLT up) Z (L.drop i) = T ∧ ∀ b, Z = some b → b.length ≤ 1000) 16 (fun i Z => [(7, iV i), (6, iV L.length), (5, y6 L), (0, .yld 0)]) (fun i Z => i9 fn up Z ++ [.box [y6 L]]) [some 0, some 1, some 2, some 3, some 4, some 5] [] (B) (by exact ⟨h0, hB⟩) ?_; intro i Z hi hP
 obtain ⟨hP, hZ⟩ := hP
 by_cases hi2 : i < L.length
 ·have hcl := hs _ (i3 hi2)
  rw [o6 hi2] at hP
  have hP : x4 (zLT up) (x4 (zLT up) Z [L.getD i default]) (L.drop (i + 1)) = T := by rw [← hP, ← N1]; rfl
  have hy := zID fn up Z (L.getD i default) hZ hcl
  have hZ2 : ∀ b, x4 (zLT up) Z [L.getD i default] = some b → b.length ≤ 1000 := fun b hb2 => by
   rcases N2 hb2 with h | h
   ·exact hZ b h
   ·rw [List.mem_singleton.1 h]; exact hcl
  generalize x4 (zLT up) Z [L.getD i default] = Z2 at *
  clear h0 hB hs hZ hcl
  repeat' (first | ((refine L4 2 rfl rfl rfl ?_; simp only [List.take_succ_cons, List.take_zero, List.drop_succ_cons, List.drop_zero])) | (refine Qr rfl ?_; try intro _ hK; try simp only [go_sem, *]) | refine Qh rfl ?_ | (refine Qc rfl rfl ?_ ?_ <;> (intro hb; have hc := hb; try simp only [go_sem] at hc)) | refine q8 rfl ?_ | ((with_reducible apply And.intro); focus omega) | (refine q7 hK ?_; clear hK; simp only [go_sem, *]) | simp only [q6, z8, go_sem, *])
  all_goals first | contradiction | omega | skip
  refine zA5 rfl ?_
  refine G5 [0, 1, 2, 3, 4] [] hy rfl rfl (by simp) (by simp only [go_sem]) (by simp only [go_sem]) (by simp) (.inl rfl) (by simp [go_sem]) (by simp [go_sem]) ?_
  simp only [go_sem]
  repeat' (first | (refine Qr rfl ?_; try intro _ hK; try simp only [go_sem, *]) | refine Qh rfl ?_ | (refine Qc rfl rfl ?_ ?_ <;> (intro hb; have hc := hb; try simp only [go_sem] at hc)) | refine q8 rfl ?_ | ((with_reducible apply And.intro); focus omega) | (refine q7 hK ?_; clear hK; simp only [go_sem, *]) | simp only [q6, z8, go_sem, *])
  all_goals first | contradiction | omega | skip
  exact r9 (i' := i + 1) [some 0, some 1, some 2, some 3, some 4, some 5] [] (Z2) (by exact ⟨hP, hZ2⟩)
 ·rw [j9 (by omega)] at hP
  have hP : Z = T := by cases Z <;> exact hP
  subst hP
  clear h0 hB hs hZ
  repeat' (first | (refine Qr rfl ?_; try intro _ hK; try simp only [go_sem, *]) | refine Qh rfl ?_ | (refine Qc rfl rfl ?_ ?_ <;> (intro hb; have hc := hb; try simp only [go_sem] at hc)) | refine q8 rfl ?_ | ((with_reducible apply And.intro); focus omega) | (refine q7 hK ?_; clear hK; simp only [go_sem, *]) | simp only [q6, z8, go_sem, *])
  all_goals first | contradiction | omega | skip
  refine ⟨[], [some 0, some 1, some 2, some 3, some 4, some 5], [], trivial, ?_⟩
  simp only [go_sem, j5, *]
theorem zGt (L : List Str) : zLP prog 117 [y6 L] [] (.fn 141 [.ptr 0 0]) [.box [y6 L]] := by
 refine q9 func117 rfl (fun E hE => ?_); simp only [go_sem, ntmps117]
 repeat' (first | (refine Qr rfl ?_; try intro _ hK; try simp only [go_sem, *]) | refine Qh rfl ?_ | (refine Qc rfl rfl ?_ ?_ <;> (intro hb; have hc := hb; try simp only [go_sem] at hc)) | refine q8 rfl ?_ | ((with_reducible apply And.intro); focus omega) | (refine q7 hK ?_; clear hK; simp only [go_sem, *]) | simp only [q6, z8, go_sem, *])
 refine ⟨[_], [some 0], [], ⟨rfl, trivial⟩, ?_⟩
 simp only [go_sem, *]
theorem zG2 (up : Bool) (L : List Str) (hL : L.length ≤ 2000000000) (hs : ∀ s, s ∈ L → s.length ≤ 1000) :
  zLP prog 116 [.fn 141 [.ptr 0 0], .fn 118 [.ptr 1 0]] [.box [y6 L], .box [zLs up]] (.tup [.raw (e9 (d7 (zLT up) L)), bV (d7 (zLT up) L).isSome]) [.box [y6 L], .box [zLs up]] := by
 have s1 := fun fn => zGu fn up L none hL hs (fun b h => by cases h)
 have e : d7 (zLT up) L = x4 (zLT up) none L := rfl
 rw [e]
 generalize x4 (zLT up) none L = B at *
 clear hs e
 simp only [i9, List.cons_append, List.nil_append, show e9 none = .string ⟨#[]⟩ from rfl, Option.isSome_none] at s1
 refine q9 func116 rfl (fun E hE => ?_); simp only [go_sem, ntmps116]
 repeat' (first | (refine Qr rfl ?_; try intro _ hK; try simp only [go_sem, *]) | refine Qh rfl ?_ | refine Qd rfl (by kernel_rfl) ?_ | (refine Qc rfl rfl ?_ ?_ <;> (intro hb; have hc := hb; try simp only [go_sem] at hc)) | refine q8 rfl ?_ | (refine Qb ?_ ?_; focus kernel_rfl) | ((with_reducible apply And.intro); focus omega) | (refine q7 hK ?_; clear hK; simp only [go_sem, *]) | simp only [q6, z8, go_sem, *])
 refine X6 (N := 23) (env := [(9, .fn 141 [.ptr 0 0]), (3, .ptr 2 0), (6, .ptr 3 0), (7, .ptr 4 0)]) (As := [.box [y6 L], .box [zLs up], .box [.fn 118 [.ptr 1 0]], .box [sV []], .box [bV false]]) [some 0, some 1, some 2, some 3, some 4] [] (by (simp only [Weak, go_sem, List.map_append, List.map_set, *] <;> (try simp (disch := omega) only [u5]) <;> (try simp) <;> (try omega))) ?_
 refine H9 (f := 141) (caps := [.ptr 0 0]) rfl (by simp only [go_sem]) (by kernel_rfl) (nx := 5) (by simp only [go_sem]) (fun fn => ⟨6, ?_⟩)
 refine Y6 [5, 2, 3, 4, 1, 0] [] (s1 fn) (by simp) (by simp only [go_sem]) ?_ (by simp) (.inl rfl) (by simp [go_sem]) (by simp [go_sem]) ?_
 ·simp only [go_sem, *]
  first | rfl | exact ⟨rfl, rfl⟩
 ·simp only [go_sem, *]
  refine ⟨S1 fn, [(3, .ptr 2 0), (6, .ptr 3 0), (7, .ptr 4 0)], none, by simp only [go_sem], ?_⟩
  simp only [go_sem]
  repeat' (first | (refine Qr rfl ?_; try intro _ hK; try simp only [go_sem, *]) | refine Qh rfl ?_ | refine Qd rfl (by kernel_rfl) ?_ | (refine Qc rfl rfl ?_ ?_ <;> (intro hb; have hc := hb; try simp only [go_sem] at hc)) | refine q8 rfl ?_ | (refine Qb ?_ ?_; focus kernel_rfl) | ((with_reducible apply And.intro); focus omega) | (refine q7 hK ?_; clear hK; simp only [go_sem, *]) | simp only [q6, z8, go_sem, *])
  refine ⟨[_, _], [some 0, some 1], [], ⟨rfl, rfl, trivial⟩, ?_⟩
  simp only [go_sem, *]
end Go.Abs

namespace Go.Abs
open Go Go.Proofs Tryz
attribute [local irreducible] y3 Hold y8
def okC (l : List Str) (own : Str) (most : Int) (s : Str) : Bool := decide ((s.length : Int) ≤ most) && !i5 s l own
theorem zCK (l : List Str) (own : Str) (most : Int) (up : Bool) (hv : ∀ s, s ∈ l → ValidN s) (hl : l.length ≤ 1000) (ho0 : 0 < own.length) (ho : own.length ≤ 12) (_hm : -1000 ≤ most ∧ most ≤ 1000) :
  zLP prog 79 [y6 l, sV own, iV most, zLs up] [] (.tup [.raw (e9 (zLb l own most up)), bV (zLb l own most up).isSome]) [] := by
 have hca : u7 prog 114 = true := by kernel_rfl
 have hcb : u7 prog 115 = true := by kernel_rfl
 have sc := zG0 own ho0 ho
 have sm := fun k h0 h1 => zHG k own l h0 h1 hv hl
 refine q9 func79 rfl (fun E hE => ?_); simp only [go_sem, ntmps79]
 repeat' (first | ((refine zF9 1 rfl rfl rfl hcb rfl ?_; simp only [List.take_succ_cons, List.take_zero, List.drop_succ_cons, List.drop_zero])) | (refine Qr rfl ?_; try intro _ hK; try simp only [go_sem, *]) | (refine Qi rfl rfl rfl rfl ?_ ?_ <;> (intro hb; (try intro _ hK); have hc := hb; try simp only [go_sem] at hc; simp only [go_sem, *])) | refine Qh rfl ?_ | (refine Qc rfl rfl ?_ ?_ <;> (intro hb; have hc := hb; try simp only [go_sem] at hc)) | refine q8 rfl ?_ | ((with_reducible apply And.intro); focus omega) | (refine q7 hK ?_; clear hK; simp only [go_sem, *]) | simp only [q6, z8, go_sem, *])
 refine zC2 ⟨X0 own, fun s => zBi, zAf ho ho0⟩ [] [] sc (by simp) (by simp only [go_sem]) trivial (by simp) (.inl rfl) (by simp [go_sem]) (by simp [go_sem]) (fun L => ?_)
 obtain ⟨L, hLm, hLl⟩ := L
 simp only [go_sem]
 clear sc
 obtain ⟨F, hF⟩ : ∃ F, L.filter (okC l own most) = F := ⟨_, rfl⟩
 have hcut : d7 (zLT up) F = zLb l own most up := zDg (fun s => by
  rw [← hF, List.mem_filter, hLm]
  unfold okC U8
  simp only [Bool.and_eq_true, decide_eq_true_eq, Bool.not_eq_true'])
 have hFs : ∀ s, s ∈ F → s.length ≤ 1000 := fun s hs => by
  rw [← hF, List.mem_filter, hLm] at hs
  obtain ⟨⟨t, _, _, h⟩, _⟩ := hs
  omega
 have h0 : [] ++ (L.drop 0).filter (okC l own most) = F := hF
 rw [← hcut]
 have hFl : F.length ≤ 2000000000 := by rw [← hF]; exact Nat.le_trans (List.length_filter_le _ _) hLl
 have hLs : ∀ s, s ∈ L → 0 < s.length ∧ s.length ≤ 12 := fun s hs => by
  have h := (hLm s).1 hs
  have h1 := zE0 h
  obtain ⟨t, _, _, h⟩ := h
  omega
 clear hF hcut hLm
 repeat' (first | (refine Qr rfl ?_; try intro _ hK; try simp only [go_sem, *]) | (refine Qi rfl rfl rfl rfl ?_ ?_ <;> (intro hb; (try intro _ hK); have hc := hb; try simp only [go_sem] at hc; simp only [go_sem, *])) | refine Qh rfl ?_ | (refine Qc rfl rfl ?_ ?_ <;> (intro hb; have hc := hb; try simp only [go_sem] at hc)) | refine q8 rfl ?_ | ((with_reducible apply And.intro); focus omega) | (refine q7 hK ?_; clear hK; simp only [go_sem, *]) | simp only [q6, z8, go_sem, *])
 refine c0 rfl (L.length) (fun i (acc : List Str) => acc ++ (L.drop i).filter (okC l own most) = F) 43 (fun i acc => [(17, iV i), (16, iV L.length), (15, .own 1 1 0 L.length), (10, .own 2 1 0 acc.length), (11, fnV 114), (7, .ptr 0 0), (0, y6 l), (1, sV own), (2, iV most)]) (fun i acc => [.box [zLs up], .row 1 (L.map sV), .row 1 (acc.map sV)]) [some 0, some 1, none] [] ([]) (by exact h0) ?_; intro i acc hi hP
 clear h0
 by_cases hi2 : i < L.length
 ·obtain ⟨hx0, hx1⟩ := hLs _ (i3 hi2)
  have s1 := sm _ hx0 (by omega)
  have hal : acc.length ≤ 2000000000 := by
   have := congrArg List.length hP
   rw [List.length_append] at this
   omega
  rw [o6 hi2, List.filter_cons, show okC l own most (L.getD i default) = (decide (((L.getD i default).length : Int) ≤ most) && !i5 (L.getD i default) l own) from rfl] at hP
  generalize hxe : L.getD i default = x at *
  generalize i5 x l own = b at *
  clear sm hLs hv
  by_cases q : (x.length : Int) ≤ most
  ·cases b
   ·rw [decide_eq_true q] at hP
    have hP : (acc ++ [x]) ++ (L.drop (i + 1)).filter (okC l own most) = F := by rw [← hP]; simp
    repeat' (first | (refine Qr rfl ?_; try intro _ hK; try simp only [go_sem, *]) | (refine Qi rfl rfl rfl rfl ?_ ?_ <;> (intro hb; (try intro _ hK); have hc := hb; try simp only [go_sem] at hc; simp only [go_sem, *])) | refine Qh rfl ?_ | (refine Qc rfl rfl ?_ ?_ <;> (intro hb; have hc := hb; try simp only [go_sem] at hc)) | refine q8 rfl ?_ | (refine y2 (s1) ?_; simp only [go_sem, *]) | ((with_reducible apply And.intro); focus omega) | (refine q7 hK ?_; clear hK; simp only [go_sem, *]) | simp only [q6, z8, go_sem, *])
    all_goals first | contradiction | omega | skip
    exact r9 (i' := i + 1) [some 0, some 1, some 4] [] (acc ++ [x]) (by exact hP)
   ·rw [decide_eq_true q] at hP
    have hP : acc ++ (L.drop (i + 1)).filter (okC l own most) = F := hP
    repeat' (first | (refine Qr rfl ?_; try intro _ hK; try simp only [go_sem, *]) | (refine Qi rfl rfl rfl rfl ?_ ?_ <;> (intro hb; (try intro _ hK); have hc := hb; try simp only [go_sem] at hc; simp only [go_sem, *])) | refine Qh rfl ?_ | (refine Qc rfl rfl ?_ ?_ <;> (intro hb; have hc := hb; try simp only [go_sem] at hc)) | refine q8 rfl ?_ | (refine y2 (s1) ?_; simp only [go_sem, *]) | ((with_reducible apply And.intro); focus omega) | (refine q7 hK ?_; clear hK; simp only [go_sem, *]) | simp only [q6, z8, go_sem, *])
    all_goals first | contradiction | omega | skip
    exact r9 (i' := i + 1) [some 0, some 1, some 2] [] (acc) (by exact hP)
  ·rw [decide_eq_false q] at hP
   have hP : acc ++ (L.drop (i + 1)).filter (okC l own most) = F := hP
   repeat' (first | (refine Qr rfl ?_; try intro _ hK; try simp only [go_sem, *]) | (refine Qi rfl rfl rfl rfl ?_ ?_ <;> (intro hb; (try intro _ hK); have hc := hb; try simp only [go_sem] at hc; simp only [go_sem, *])) | refine Qh rfl ?_ | (refine Qc rfl rfl ?_ ?_ <;> (intro hb; have hc := hb; try simp only [go_sem] at hc)) | refine q8 rfl ?_ | (refine y2 (s1) ?_; simp only [go_sem, *]) | ((with_reducible apply And.intro); focus omega) | (refine q7 hK ?_; clear hK; simp only [go_sem, *]) | simp only [q6, z8, go_sem, *])
   all_goals first | contradiction | omega | skip
   exact r9 (i' := i + 1) [some 0, some 1, some 2] [] (acc) (by exact hP)
 ·rw [j9 (by omega)] at hP
  have hP : acc = F := by rw [← hP]; simp
  subst hP
  clear sm hLs hv
  have sV1 := zGt acc
  have sF := zG2 up acc hFl hFs
  generalize d7 (zLT up) acc = o at *
  clear hFs
  repeat' (first | (refine Qr rfl ?_; try intro _ hK; try simp only [go_sem, *]) | (refine Qi rfl rfl rfl rfl ?_ ?_ <;> (intro hb; (try intro _ hK); have hc := hb; try simp only [go_sem] at hc; simp only [go_sem, *])) | refine Qh rfl ?_ | (refine Qc rfl rfl ?_ ?_ <;> (intro hb; have hc := hb; try simp only [go_sem] at hc)) | refine q8 rfl ?_ | ((with_reducible apply And.intro); focus omega) | (refine q7 hK ?_; clear hK; simp only [go_sem, *]) | simp only [q6, z8, go_sem, *])
  all_goals first | contradiction | omega | skip
  refine b9 [] [2] sV1 rfl (by simp only [go_sem]) (by simp) ?_ ?_ (by simp [go_sem]) (by simp [go_sem]) ?_
  ·simp only [go_sem, *]
  ·simp only [go_sem, *]
  simp only [go_sem, w9, *]
  repeat' (first | (refine Qr rfl ?_; try intro _ hK; try simp only [go_sem, *]) | (refine Qi rfl rfl rfl rfl ?_ ?_ <;> (intro hb; (try intro _ hK); have hc := hb; try simp only [go_sem] at hc; simp only [go_sem, *])) | refine Qh rfl ?_ | (refine Qc rfl rfl ?_ ?_ <;> (intro hb; have hc := hb; try simp only [go_sem] at hc)) | refine q8 rfl ?_ | ((with_reducible apply And.intro); focus omega) | (refine q7 hK ?_; clear hK; simp only [go_sem, *]) | simp only [q6, z8, go_sem, *])
  refine w8 [3, 0] sF ?_
  simp only [go_sem, *]
  repeat' (first | (refine Qr rfl ?_; try intro _ hK; try simp only [go_sem, *]) | (refine Qi rfl rfl rfl rfl ?_ ?_ <;> (intro hb; (try intro _ hK); have hc := hb; try simp only [go_sem] at hc; simp only [go_sem, *])) | refine Qh rfl ?_ | (refine Qc rfl rfl ?_ ?_ <;> (intro hb; have hc := hb; try simp only [go_sem] at hc)) | refine q8 rfl ?_ | ((with_reducible apply And.intro); focus omega) | (refine q7 hK ?_; clear hK; simp only [go_sem, *]) | simp only [q6, z8, go_sem, *])
  all_goals first | contradiction | omega | skip
  (refine ⟨[_, _], [], [], ⟨rfl, rfl, trivial⟩, ?_⟩; simp only [go_sem, *])
end Go.Abs

namespace Go.Abs
open Go Go.Proofs Tryz
attribute [local irreducible] y3 Hold y8
theorem zE4 {s : Str} (v : ValidN s) : 0 < (zLO s).length ∧ (zLO s).length ≤ 12 := by
 have h := D8 v
 unfold x8 at h
 simp only [Bool.and_eq_true, decide_eq_true_eq] at h
 omega
theorem zCO (l : List Str) (n : Int) (hl : l.length ≤ 4294967296) : zLP prog 78 [y6 l, iV n] [] (.tup [sV (if j3 l n = 0 then v8 l n else []), iV (j3 l n)]) [] := by
 have s1 := zCP l hl
 unfold j3
 by_cases q : p6 l = 0
 ·rw [if_pos q]
  rw [q] at s1
  have hv := C1 q
  by_cases q2 : n < 0 ∨ (l.length : Int) ≤ n
  ·rw [if_pos q2, if_neg (by decide)]
   clear hv
   by_cases q3 : n < 0
   ·refine q9 func78 rfl (fun E hE => ?_); simp only [go_sem, ntmps78]
    repeat' (first | (refine Qr rfl ?_; try intro _ hK; try simp only [go_sem, *]) | (refine Qi rfl rfl rfl rfl ?_ ?_ <;> (intro hb; (try intro _ hK); have hc := hb; try simp only [go_sem] at hc; simp only [go_sem, *])) | refine Qh rfl ?_ | (refine Qc rfl rfl ?_ ?_ <;> (intro hb; have hc := hb; try simp only [go_sem] at hc)) | refine q8 rfl ?_ | (refine y2 (s1) ?_; simp only [go_sem, *]) | ((with_reducible apply And.intro); focus omega) | (refine q7 hK ?_; clear hK; simp only [go_sem, *]) | simp only [q6, z8, go_sem, *])
    all_goals first | contradiction | omega | skip
    (refine ⟨[_, _], [], [], ⟨rfl, rfl, trivial⟩, ?_⟩; simp only [go_sem, *])
   ·have q4 : (l.length : Int) ≤ n := q2.resolve_left q3
    clear q2
    refine q9 func78 rfl (fun E hE => ?_); simp only [go_sem, ntmps78]
    repeat' (first | (refine Qr rfl ?_; try intro _ hK; try simp only [go_sem, *]) | (refine Qi rfl rfl rfl rfl ?_ ?_ <;> (intro hb; (try intro _ hK); have hc := hb; try simp only [go_sem] at hc; simp only [go_sem, *])) | refine Qh rfl ?_ | (refine Qc rfl rfl ?_ ?_ <;> (intro hb; have hc := hb; try simp only [go_sem] at hc)) | refine q8 rfl ?_ | (refine y2 (s1) ?_; simp only [go_sem, *]) | ((with_reducible apply And.intro); focus omega) | (refine q7 hK ?_; clear hK; simp only [go_sem, *]) | simp only [q6, z8, go_sem, *])
    all_goals first | contradiction | omega | skip
    (refine ⟨[_, _], [], [], ⟨rfl, rfl, trivial⟩, ?_⟩; simp only [go_sem, *])
  ·rw [if_neg q2, if_pos rfl]
   obtain ⟨i, rfl⟩ : ∃ i : Nat, n = i := ⟨n.toNat, by omega⟩
   have hi2 : i < l.length := by omega
   have v := hv _ (i3 hi2)
   have so := W3 _ v.form (by have := v.len; omega)
   have e : v8 l (i : Int) = zLO (l.getD i default) := rfl
   rw [e]
   generalize zLO (l.getD i default) = k at *
   clear hv e v q2
   have q3 : ¬ (i : Int) < 0 := by omega
   refine q9 func78 rfl (fun E hE => ?_); simp only [go_sem, ntmps78]
   repeat' (first | (refine Qr rfl ?_; try intro _ hK; try simp only [go_sem, *]) | (refine Qi rfl rfl rfl rfl ?_ ?_ <;> (intro hb; (try intro _ hK); have hc := hb; try simp only [go_sem] at hc; simp only [go_sem, *])) | refine Qh rfl ?_ | (refine Qc rfl rfl ?_ ?_ <;> (intro hb; have hc := hb; try simp only [go_sem] at hc)) | refine q8 rfl ?_ | ((first | refine y2 (s1) ?_ | refine y2 (so) ?_); simp only [go_sem, *]) | ((with_reducible apply And.intro); focus omega) | (refine q7 hK ?_; clear hK; simp only [go_sem, *]) | simp only [q6, z8, go_sem, *])
   all_goals first | contradiction | omega | skip
   (refine ⟨[_, _], [], [], ⟨rfl, rfl, trivial⟩, ?_⟩; simp only [go_sem, *])
 ·rw [if_neg q, if_neg q]
  generalize p6 l = e at *
  refine q9 func78 rfl (fun E hE => ?_); simp only [go_sem, ntmps78]
  repeat' (first | (refine Qr rfl ?_; try intro _ hK; try simp only [go_sem, *]) | (refine Qi rfl rfl rfl rfl ?_ ?_ <;> (intro hb; (try intro _ hK); have hc := hb; try simp only [go_sem] at hc; simp only [go_sem, *])) | refine Qh rfl ?_ | (refine Qc rfl rfl ?_ ?_ <;> (intro hb; have hc := hb; try simp only [go_sem] at hc)) | refine q8 rfl ?_ | (refine y2 (s1) ?_; simp only [go_sem, *]) | ((with_reducible apply And.intro); focus omega) | (refine q7 hK ?_; clear hK; simp only [go_sem, *]) | simp only [q6, z8, go_sem, *])
  all_goals first | contradiction | omega | skip
  (refine ⟨[_, _], [], [], ⟨rfl, rfl, trivial⟩, ?_⟩; simp only [go_sem, *])
theorem zBC {l : List Str} {n : Int} (q : j3 l n = 0) : (∀ s, s ∈ l → ValidN s) ∧ l.length ≤ 6 ∧ 0 < (v8 l n).length ∧ (v8 l n).length ≤ 12 := by
 unfold j3 at q
 by_cases a : p6 l = 0
 ·rw [if_pos a] at q
  by_cases b : n < 0 ∨ (l.length : Int) ≤ n
  ·rw [if_pos b] at q; cases q
  ·have hv := C1 a
   have v : ValidN (l.getD n.toNat default) := hv _ (i3 (by omega))
   exact ⟨hv, zBZ a, zE4 v⟩
 ·rw [if_neg a] at q; exact absurd q a
theorem zAe {l : List Str} {own : Str} {most : Int} {up : Bool} {s : Str} (h : zLb l own most up = some s) : s.length < own.length := by
 obtain ⟨⟨t, _, _, h⟩, _⟩ := (cutN_some.1 h).1
 exact h
theorem zGo (l : List Str) (n : Int) (hl : l.length ≤ 4294967296) : zLP prog 29 [y6 l, iV n] [] (.tup [sV (A6 l n), iV (A5 l n)]) [] := by
 have s1 := zCO l n hl
 unfold A6 A5
 by_cases q : j3 l n = 0
 ·obtain ⟨hv, h6, hk0, hk1⟩ := zBC q
  rw [if_pos q] at s1
  rw [if_pos q, if_pos q]
  rw [q] at s1
  have sc : zLP prog 79 [y6 l, sV (v8 l n), iV 12, fnV 80] [] (.tup [.raw (e9 (zLb l (v8 l n) 12 true)), bV (zLb l (v8 l n) 12 true).isSome]) [] := zCK l (v8 l n) 12 true hv (by omega) hk0 hk1 (by omega)
  have hcl := fun s => zAe (l := l) (own := v8 l n) (most := 12) (up := true) (s := s)
  generalize v8 l n = k at *
  generalize zLb l k 12 true = o at *
  clear hv q
  cases o with
  | none =>
   rw [show (none : Option Str).isSome = false from rfl] at sc ⊢
   rw [if_neg (by decide)]
   simp only [e9, Option.map_none, Option.getD_none] at sc ⊢
   refine q9 func29 rfl (fun E hE => ?_); simp only [go_sem, ntmps29]
   repeat' (first | (refine Qr rfl ?_; try intro _ hK; try simp only [go_sem, *]) | refine Qh rfl ?_ | (refine Qc rfl rfl ?_ ?_ <;> (intro hb; have hc := hb; try simp only [go_sem] at hc)) | refine q8 rfl ?_ | ((first | refine y2 (s1) ?_ | refine y2 (sc) ?_); simp only [go_sem, *]) | ((with_reducible apply And.intro); focus omega) | (refine q7 hK ?_; clear hK; simp only [go_sem, *]) | simp only [q6, z8, go_sem, *])
   all_goals try contradiction
   (refine ⟨[_, _], [], [], ⟨rfl, rfl, trivial⟩, ?_⟩; simp only [go_sem, *])
  | some c =>
   have hc1 := hcl c rfl
   rw [show (some c : Option Str).isSome = true from rfl] at sc ⊢
   rw [if_pos rfl]
   simp only [e9, Option.map_some, Option.getD_some, zMJ] at sc ⊢
   clear hcl
   refine q9 func29 rfl (fun E hE => ?_); simp only [go_sem, ntmps29]
   repeat' (first | (refine Qr rfl ?_; try intro _ hK; try simp only [go_sem, *]) | refine Qh rfl ?_ | (refine Qc rfl rfl ?_ ?_ <;> (intro hb; have hc := hb; try simp only [go_sem] at hc)) | refine q8 rfl ?_ | ((first | refine y2 (s1) ?_ | refine y2 (sc) ?_); simp only [go_sem, *]) | ((with_reducible apply And.intro); focus omega) | (refine q7 hK ?_; clear hK; simp only [go_sem, *]) | simp only [q6, z8, go_sem, *])
   all_goals try contradiction
   (refine ⟨[_, _], [], [], ⟨rfl, rfl, trivial⟩, ?_⟩; simp only [go_sem, *])
 ·rw [if_neg q] at s1
  rw [if_neg q, if_neg q]
  generalize j3 l n = e at *
  refine q9 func29 rfl (fun E hE => ?_); simp only [go_sem, ntmps29]
  repeat' (first | (refine Qr rfl ?_; try intro _ hK; try simp only [go_sem, *]) | refine Qh rfl ?_ | (refine Qc rfl rfl ?_ ?_ <;> (intro hb; have hc := hb; try simp only [go_sem] at hc)) | refine q8 rfl ?_ | (refine y2 (s1) ?_; simp only [go_sem, *]) | ((with_reducible apply And.intro); focus omega) | (refine q7 hK ?_; clear hK; simp only [go_sem, *]) | simp only [q6, z8, go_sem, *])
  all_goals try contradiction
  (refine ⟨[_, _], [], [], ⟨rfl, rfl, trivial⟩, ?_⟩; simp only [go_sem, *])
theorem zGg (l : List Str) (n w : Int) (hl : l.length ≤ 4294967296) : zLP prog 31 [y6 l, iV n, iV w] [] (.tup [sV (zMR l n w), iV (E5 l n w)]) [] := by
 have s1 := zCO l n hl
 unfold zMR E5
 by_cases q : j3 l n = 0
 ·obtain ⟨hv, h6, hk0, hk1⟩ := zBC q
  rw [if_pos q] at s1
  rw [if_pos q, if_pos q]
  rw [q] at s1
  by_cases q1 : w < 1
  ·rw [if_pos q1, if_pos q1]
   clear hv q
   generalize v8 l n = k at *
   refine q9 func31 rfl (fun E hE => ?_); simp only [go_sem, ntmps31]
   repeat' (first | (refine Qr rfl ?_; try intro _ hK; try simp only [go_sem, *]) | refine Qh rfl ?_ | (refine Qc rfl rfl ?_ ?_ <;> (intro hb; have hc := hb; try simp only [go_sem] at hc)) | refine q8 rfl ?_ | (refine y2 (s1) ?_; simp only [go_sem, *]) | ((with_reducible apply And.intro); focus omega) | (refine q7 hK ?_; clear hK; simp only [go_sem, *]) | simp only [q6, z8, go_sem, *])
   all_goals try contradiction
   (refine ⟨[_, _], [], [], ⟨rfl, rfl, trivial⟩, ?_⟩; simp only [go_sem, *])
  ·rw [if_neg q1, if_neg q1]
   by_cases q2 : ((v8 l n).length : Int) ≤ w
   ·rw [if_pos q2, if_pos q2]
    clear hv q
    generalize v8 l n = k at *
    refine q9 func31 rfl (fun E hE => ?_); simp only [go_sem, ntmps31]
    repeat' (first | (refine Qr rfl ?_; try intro _ hK; try simp only [go_sem, *]) | refine Qh rfl ?_ | (refine Qc rfl rfl ?_ ?_ <;> (intro hb; have hc := hb; try simp only [go_sem] at hc)) | refine q8 rfl ?_ | (refine y2 (s1) ?_; simp only [go_sem, *]) | ((with_reducible apply And.intro); focus omega) | (refine q7 hK ?_; clear hK; simp only [go_sem, *]) | simp only [q6, z8, go_sem, *])
    all_goals try contradiction
    (refine ⟨[_, _], [], [], ⟨rfl, rfl, trivial⟩, ?_⟩; simp only [go_sem, *])
   ·rw [if_neg q2, if_neg q2]
    have hw : IntKind.i64.wrap (w - 1) = w - 1 := wrap_i64 (by omega) (by omega)
    have sc : zLP prog 79 [y6 l, sV (v8 l n), iV (w - 1), fnV 83] [] (.tup [.raw (e9 (zLb l (v8 l n) (w - 1) false)), bV (zLb l (v8 l n) (w - 1) false).isSome]) [] := zCK l (v8 l n) (w - 1) false hv (by omega) hk0 hk1 (by omega)
    have hcl := fun s => zAe (l := l) (own := v8 l n) (most := w - 1) (up := false) (s := s)
    generalize v8 l n = k at *
    generalize zLb l k (w - 1) false = o at *
    clear hv q
    cases o with
    | none =>
     rw [show (none : Option Str).isSome = false from rfl] at sc ⊢
     rw [if_neg (by decide)]
     simp only [e9, Option.map_none, Option.getD_none] at sc ⊢
     refine q9 func31 rfl (fun E hE => ?_); simp only [go_sem, ntmps31]
     repeat' (first | (refine Qr rfl ?_; try intro _ hK; try simp only [go_sem, *]) | refine Qh rfl ?_ | (refine Qc rfl rfl ?_ ?_ <;> (intro hb; have hc := hb; try simp only [go_sem] at hc)) | refine q8 rfl ?_ | ((first | refine y2 (s1) ?_ | refine y2 (sc) ?_); simp only [go_sem, *]) | ((with_reducible apply And.intro); focus omega) | (refine q7 hK ?_; clear hK; simp only [go_sem, *]) | simp only [q6, z8, go_sem, *])
     all_goals try contradiction
     (refine ⟨[_, _], [], [], ⟨rfl, rfl, trivial⟩, ?_⟩; simp only [go_sem, *])
    | some c =>
     have hc1 := hcl c rfl
     rw [show (some c : Option Str).isSome = true from rfl] at sc ⊢
     rw [if_pos rfl]
     simp only [e9, Option.map_some, Option.getD_some, zMJ] at sc ⊢
     clear hcl
     refine q9 func31 rfl (fun E hE => ?_); simp only [go_sem, ntmps31]
     repeat' (first | (refine Qr rfl ?_; try intro _ hK; try simp only [go_sem, *]) | refine Qh rfl ?_ | (refine Qc rfl rfl ?_ ?_ <;> (intro hb; have hc := hb; try simp only [go_sem] at hc)) | refine q8 rfl ?_ | ((first | refine y2 (s1) ?_ | refine y2 (sc) ?_); simp only [go_sem, *]) | ((with_reducible apply And.intro); focus omega) | (refine q7 hK ?_; clear hK; simp only [go_sem, *]) | simp only [q6, z8, go_sem, *])
     all_goals try contradiction
     (refine ⟨[_, _], [], [], ⟨rfl, rfl, trivial⟩, ?_⟩; simp only [go_sem, *])
 ·rw [if_neg q] at s1
  rw [if_neg q, if_neg q]
  generalize j3 l n = e at *
  refine q9 func31 rfl (fun E hE => ?_); simp only [go_sem, ntmps31]
  repeat' (first | (refine Qr rfl ?_; try intro _ hK; try simp only [go_sem, *]) | refine Qh rfl ?_ | (refine Qc rfl rfl ?_ ?_ <;> (intro hb; have hc := hb; try simp only [go_sem] at hc)) | refine q8 rfl ?_ | (refine y2 (s1) ?_; simp only [go_sem, *]) | ((with_reducible apply And.intro); focus omega) | (refine q7 hK ?_; clear hK; simp only [go_sem, *]) | simp only [q6, z8, go_sem, *])
  all_goals try contradiction
  (refine ⟨[_, _], [], [], ⟨rfl, rfl, trivial⟩, ?_⟩; simp only [go_sem, *])
end Go.Abs

namespace Go.Abs
open Go Go.Proofs Tryz
attribute [local irreducible] y3 Hold y8
theorem zHT : zLP prog 22 [] [] (bV true) [] := by
 have s1 := zCG zL6
 rw [zH0, if_pos rfl, zH3] at s1
 have s2 := zGq [M4, zL6, J9, zMM] zH4
 rw [zH7] at s2
 have s3 := zHQ
 have s4 := zGY rulesX Z0 c5 (by decide) (by decide)
 have e4 : T5 rulesX Z0 c5 = some [Z0, M5, c5] := by unfold T5; rw [if_pos zCp, zCo]
 have e5 : j8 rulesX Z0 c5 = 0 := by unfold j8; rw [if_pos zCp, zCo]; rfl
 rw [e4, e5] at s4
 have s5 := zHR
 have s6 := zGo smithsX 0 (by decide)
 rw [zH5, zH6] at s6
 have s7 := zGg smithsX 0 4 (by decide)
 rw [zH1, zH2] at s7
 have s8 := zGe [2, 3, 0, 1] [2, 3, 0, 1] (by decide)
 rw [decide_eq_true rfl] at s8
 have s9 := zGf [Z0, M5, c5] [Z0, M5, c5] (by decide)
 rw [decide_eq_true rfl] at s9
 clear e4 e5
 simp only [y6, X1, w6, zC8, rulesX, smithsX, zL6, M4, J9, zMM, Z0, M5, c5, C9, zMW, Rule.enc, List.map_cons, List.map_nil, List.length_cons, List.length_nil] at s1 s2 s3 s4 s5 s6 s7 s8 s9
 refine q9 func22 rfl (fun E hE => ?_); simp only [go_sem, ntmps22]
 repeat' (first | (refine Qr rfl ?_; try intro _ hK; try simp only [go_sem, *]) | (refine Qi rfl rfl rfl rfl ?_ ?_ <;> (intro hb; (try intro _ hK); have hc := hb; try simp only [go_sem] at hc; simp only [go_sem, *])) | refine Qh rfl ?_ | (refine Qc rfl rfl ?_ ?_ <;> (intro hb; have hc := hb; try simp only [go_sem] at hc)) | refine q8 rfl ?_ | (refine y2 (s1) ?_; simp only [go_sem, *]) | (refine t8 (s3) ?_; simp only [go_sem, *]) | (refine t8 (s5) ?_; simp only [go_sem, *]) | ((with_reducible apply And.intro); focus omega) | (refine q7 hK ?_; clear hK; simp only [go_sem, *]) | simp only [q6, z8, go_sem, *])
 refine b9 [] [0] s2 rfl (by simp only [go_sem]) (by simp) ?_ ?_ (by simp [go_sem]) (by simp [go_sem]) ?_
 ·simp only [go_sem, *]
 ·simp only [go_sem, *]
 simp only [go_sem, w9, *]
 repeat' (first | (refine Qr rfl ?_; try intro _ hK; try simp only [go_sem, *]) | (refine Qi rfl rfl rfl rfl ?_ ?_ <;> (intro hb; (try intro _ hK); have hc := hb; try simp only [go_sem] at hc; simp only [go_sem, *])) | refine Qh rfl ?_ | (refine Qc rfl rfl ?_ ?_ <;> (intro hb; have hc := hb; try simp only [go_sem] at hc)) | refine q8 rfl ?_ | (refine y2 (s1) ?_; simp only [go_sem, *]) | (refine t8 (s3) ?_; simp only [go_sem, *]) | (refine t8 (s5) ?_; simp only [go_sem, *]) | ((with_reducible apply And.intro); focus omega) | (refine q7 hK ?_; clear hK; simp only [go_sem, *]) | simp only [q6, z8, go_sem, *])
 refine b9 [] [2] s4 rfl (by simp only [go_sem]) (by simp) ?_ ?_ (by simp [go_sem]) (by simp [go_sem]) ?_
 ·simp only [go_sem, *]
 ·simp only [go_sem, *]
 simp only [go_sem, w9, *]
 repeat' (first | (refine Qr rfl ?_; try intro _ hK; try simp only [go_sem, *]) | (refine Qi rfl rfl rfl rfl ?_ ?_ <;> (intro hb; (try intro _ hK); have hc := hb; try simp only [go_sem] at hc; simp only [go_sem, *])) | refine Qh rfl ?_ | (refine Qc rfl rfl ?_ ?_ <;> (intro hb; have hc := hb; try simp only [go_sem] at hc)) | refine q8 rfl ?_ | (refine y2 (s1) ?_; simp only [go_sem, *]) | (refine t8 (s3) ?_; simp only [go_sem, *]) | (refine t8 (s5) ?_; simp only [go_sem, *]) | ((with_reducible apply And.intro); focus omega) | (refine q7 hK ?_; clear hK; simp only [go_sem, *]) | simp only [q6, z8, go_sem, *])
 refine b9 [] [3] s6 rfl (by simp only [go_sem]) (by simp) ?_ ?_ (by simp [go_sem]) (by simp [go_sem]) ?_
 ·simp only [go_sem, *]
 ·simp only [go_sem, *]
 simp only [go_sem, w9, *]
 repeat' (first | (refine Qr rfl ?_; try intro _ hK; try simp only [go_sem, *]) | (refine Qi rfl rfl rfl rfl ?_ ?_ <;> (intro hb; (try intro _ hK); have hc := hb; try simp only [go_sem] at hc; simp only [go_sem, *])) | refine Qh rfl ?_ | (refine Qc rfl rfl ?_ ?_ <;> (intro hb; have hc := hb; try simp only [go_sem] at hc)) | refine q8 rfl ?_ | (refine y2 (s1) ?_; simp only [go_sem, *]) | (refine t8 (s3) ?_; simp only [go_sem, *]) | (refine t8 (s5) ?_; simp only [go_sem, *]) | ((with_reducible apply And.intro); focus omega) | (refine q7 hK ?_; clear hK; simp only [go_sem, *]) | simp only [q6, z8, go_sem, *])
 refine b9 [] [4] s7 rfl (by simp only [go_sem]) (by simp) ?_ ?_ (by simp [go_sem]) (by simp [go_sem]) ?_
 ·simp only [go_sem, *]
 ·simp only [go_sem, *]
 simp only [go_sem, w9, *]
 repeat' (first | (refine Qr rfl ?_; try intro _ hK; try simp only [go_sem, *]) | (refine Qi rfl rfl rfl rfl ?_ ?_ <;> (intro hb; (try intro _ hK); have hc := hb; try simp only [go_sem] at hc; simp only [go_sem, *])) | refine Qh rfl ?_ | (refine Qc rfl rfl ?_ ?_ <;> (intro hb; have hc := hb; try simp only [go_sem] at hc)) | refine q8 rfl ?_ | (refine y2 (s1) ?_; simp only [go_sem, *]) | (refine t8 (s3) ?_; simp only [go_sem, *]) | (refine t8 (s5) ?_; simp only [go_sem, *]) | ((with_reducible apply And.intro); focus omega) | (refine q7 hK ?_; clear hK; simp only [go_sem, *]) | simp only [q6, z8, go_sem, *])
 refine b9 [] [1, 5] s8 rfl (by simp only [go_sem]) (by simp) ?_ ?_ (by simp [go_sem]) (by simp [go_sem]) ?_
 ·simp only [go_sem, *]; rfl
 ·simp only [go_sem, *]
 simp only [go_sem, w9, *]
 repeat' (first | (refine Qr rfl ?_; try intro _ hK; try simp only [go_sem, *]) | (refine Qi rfl rfl rfl rfl ?_ ?_ <;> (intro hb; (try intro _ hK); have hc := hb; try simp only [go_sem] at hc; simp only [go_sem, *])) | refine Qh rfl ?_ | (refine Qc rfl rfl ?_ ?_ <;> (intro hb; have hc := hb; try simp only [go_sem] at hc)) | refine q8 rfl ?_ | ((with_reducible apply And.intro); focus omega) | (refine q7 hK ?_; clear hK; simp only [go_sem, *]) | simp only [q6, z8, go_sem, *])
 refine b9 [] [6] s9 rfl (by simp only [go_sem]) (by simp) ?_ ?_ (by simp [go_sem]) (by simp [go_sem]) ?_
 ·simp only [go_sem, *]
 ·simp only [go_sem, *]
 simp only [go_sem, w9, *]
 repeat' (first | (refine Qr rfl ?_; try intro _ hK; try simp only [go_sem, *]) | (refine Qi rfl rfl rfl rfl ?_ ?_ <;> (intro hb; (try intro _ hK); have hc := hb; try simp only [go_sem] at hc; simp only [go_sem, *])) | refine Qh rfl ?_ | (refine Qc rfl rfl ?_ ?_ <;> (intro hb; have hc := hb; try simp only [go_sem] at hc)) | refine q8 rfl ?_ | ((with_reducible apply And.intro); focus omega) | (refine q7 hK ?_; clear hK; simp only [go_sem, *]) | simp only [q6, z8, go_sem, *])
 (refine ⟨[_], [], [], ⟨rfl, trivial⟩, ?_⟩; simp only [go_sem, *])
end Go.Abs

namespace Go.Abs
open Go Go.Proofs Tryz
attribute [local irreducible] y3 Hold y8
def f6 (t : Nat) : List UInt8 := ((List.range' (65 + t) (26 - t)).map UInt8.ofNat).filter x5
theorem zBs : f6 0 = otherL := by decide
theorem zBr {t : Nat} (h : t < 26) : f6 t = if x5 (UInt8.ofNat (65 + t)) = true then UInt8.ofNat (65 + t) :: f6 (t + 1) else f6 (t + 1) := by
 unfold f6
 rw [show 26 - t = (26 - (t + 1)) + 1 by omega, List.range'_succ, List.map_cons, List.filter_cons]
 rfl
theorem zHv : ∀ t, t < 27 → IntKind.i32.wrap (((65 + t : Nat) : Int) + 1) = ((65 + (t + 1) : Nat) : Int) := by decide
theorem zE9 : ∀ n, n < 128 → ((x9 (UInt8.ofNat n) = 2) ↔ x5 (UInt8.ofNat n) = true) := by decide
theorem zCM : ∀ (n : Nat) (k : Str), k.length ≤ n → k.length ≤ 1000 → zLP prog 90 [sV k] [] (.tup [sV ((r6 n k).getD []), bV (r6 n k).isSome]) []
  | n, [], _, _ => by
    have e : r6 n [] = some [] := by cases n <;> rfl
    rw [e]
    refine q9 func90 rfl (fun E hE => ?_); simp only [go_sem, ntmps90]
    repeat' (first | (refine Qr rfl ?_; try intro _ hK; try simp only [go_sem, *]) | (refine Qi rfl rfl rfl rfl ?_ ?_ <;> (intro hb; (try intro _ hK); have hc := hb; try simp only [go_sem] at hc; simp only [go_sem, *])) | refine Qh rfl ?_ | (refine Qc rfl rfl ?_ ?_ <;> (intro hb; have hc := hb; try simp only [go_sem] at hc)) | refine q8 rfl ?_ | ((with_reducible apply And.intro); focus omega) | (refine q7 hK ?_; clear hK; simp only [go_sem, *]) | simp only [q6, z8, go_sem, *])
    all_goals try contradiction
    (refine ⟨[_, _], [], [], ⟨rfl, rfl, trivial⟩, ?_⟩; simp only [go_sem, *])
  | 0, a :: r, h, _ => by simp at h
  | n + 1, a :: r, h, hk => by
    have IH := zCM n
    have h0 : u0 (fun c => if (y5 c).isPrefixOf (a :: r) = true then (r6 n ((a :: r).drop (y5 c).length)).map (c :: ·) else none) (f6 0) = r6 (n + 1) (a :: r) := by rw [zBs]; rfl
    have hne : (a :: r == []) = false := rfl
    generalize hkk : a :: r = k at *
    have hk0 : 0 < k.length := by rw [← hkk]; simp
    have hnz : ¬ k = [] := fun e => by rw [e] at hk0; simp at hk0
    clear hkk
    generalize r6 (n + 1) k = T at *
    refine q9 func90 rfl (fun E hE => ?_); simp only [go_sem, ntmps90]
    repeat' (first | (refine Qr rfl ?_; try intro _ hK; try simp only [go_sem, *]) | (refine Qi rfl rfl rfl rfl ?_ ?_ <;> (intro hb; (try intro _ hK); have hc := hb; try simp only [go_sem] at hc; simp only [go_sem, *])) | refine Qh rfl ?_ | (refine Qc rfl rfl ?_ ?_ <;> (intro hb; have hc := hb; try simp only [go_sem] at hc)) | refine q8 rfl ?_ | ((with_reducible apply And.intro); focus omega) | (refine q7 hK ?_; clear hK; simp only [go_sem, *]) | simp only [q6, z8, go_sem, *])
    all_goals try contradiction
    refine r8 rfl (26) (fun t => u0 (fun c => if (y5 c).isPrefixOf k = true then (r6 n (k.drop (y5 c).length)).map (c :: ·) else none) (f6 t) = T) 37 (fun t => [(4, .raw (.int .i32 ((65 + t : Nat) : Int))), (0, sV k)]) (fun t => []) [] [] (by exact h0) ?_; intro t ht hP
    clear h0
    by_cases ht : t < 26
    · have hw := zHv t (by omega)
      have hc1 : ((65 + t : Nat) : Int) ≤ 90 := by omega
      rw [zBr ht] at hP
      obtain ⟨c, hc⟩ : ∃ c, UInt8.ofNat (65 + t) = c := ⟨_, rfl⟩
      have hcn : c.toNat = 65 + t := by rw [← hc, UInt8.toNat_ofNat']; omega
      have hk2 := zE9 (65 + t) (by omega)
      rw [hc] at hP hk2
      have skd := G2 ((65 + t : Nat) : Int)
      have ekd : b5 ((65 + t : Nat) : Int) = x9 c := by rw [← hcn]; exact J6 c
      rw [ekd] at skd
      have ss := zCU c (by omega)
      rw [hcn] at ss
      clear ekd hc
      by_cases q : x5 c = true
      · rw [if_pos q, u0] at hP
        rw [hk2.2 q] at skd
        have hsl := Q7 c
        have sh := zCE k (y5 c) (by omega) (by omega)
        by_cases q2 : (y5 c).isPrefixOf k = true
        · rw [if_pos q2] at hP
          rw [q2] at sh
          have hpl := I9 q2
          have sI := IH (k.drop (y5 c).length) (by simp; omega) (by simp; omega)
          have ee : Utf8.encode ((65 + t : Nat) : Int) = ⟨[c].toArray⟩ := by
            have := F9 (n := ((65 + t : Nat) : Int)) (by omega) (by omega)
            rw [Int.toNat_natCast, ← hcn, UInt8.ofNat_toNat] at this
            rw [← hcn]; exact this
          generalize y5 c = sb at *
          cases hF : r6 n (k.drop sb.length) with
          | none =>
            rw [hF] at hP sI
            have hP2 : u0 (fun c => if (y5 c).isPrefixOf k = true then (r6 n (k.drop (y5 c).length)).map (c :: ·) else none) (f6 (t + 1)) = T := hP
            have sI2 : zLP prog 90 [sV (k.drop sb.length)] [] (.tup [sV [], bV false]) [] := sI
            clear hP sI hF IH hk2 q2 ee
            repeat' (first | (refine Qr rfl ?_; try intro _ hK; try simp only [go_sem, *]) | (refine Qi rfl rfl rfl rfl ?_ ?_ <;> (intro hb; (try intro _ hK); have hc := hb; try simp only [go_sem] at hc; simp only [go_sem, *])) | refine Qh rfl ?_ | (refine Qc rfl rfl ?_ ?_ <;> (intro hb; have hc := hb; try simp only [go_sem] at hc)) | refine q8 rfl ?_ | (refine x6 (skd) ?_ ?_; (focus (simp only [go_sem, *]; done)); simp only [go_sem, *]) | (refine x6 (ss) ?_ ?_; (focus (simp only [go_sem, *]; done)); simp only [go_sem, *]) | (refine x6 (sh) ?_ ?_; (focus (simp only [go_sem, *]; done)); simp only [go_sem, *]) | (refine x6 (sI2) ?_ ?_; (focus (simp only [go_sem, *]; done)); simp only [go_sem, *]) | ((with_reducible apply And.intro); focus omega) | (refine q7 hK ?_; clear hK; simp only [go_sem, *]) | simp only [q6, z8, go_sem, *])
            all_goals try contradiction
            exact n0 (i' := t + 1) [] [] (by exact hP2)
          | some y =>
            rw [hF] at hP sI
            have hP2 : some (c :: y) = T := hP
            subst hP2
            have hy := zAz _ _ _ hF
            have hyl := (V5 y).1
            rw [hy.2] at hyl
            have hyl : y.length ≤ 1000 := by simp at hyl; omega
            have sI2 : zLP prog 90 [sV (k.drop sb.length)] [] (.tup [sV y, bV true]) [] := sI
            clear hy
            clear hP sI hF IH hk2 q2
            repeat' (first | (refine Qr rfl ?_; try intro _ hK; try simp only [go_sem, *]) | (refine Qi rfl rfl rfl rfl ?_ ?_ <;> (intro hb; (try intro _ hK); have hc := hb; try simp only [go_sem] at hc; simp only [go_sem, *])) | refine Qh rfl ?_ | (refine Qc rfl rfl ?_ ?_ <;> (intro hb; have hc := hb; try simp only [go_sem] at hc)) | refine q8 rfl ?_ | (refine x6 (skd) ?_ ?_; (focus (simp only [go_sem, *]; done)); simp only [go_sem, *]) | (refine x6 (ss) ?_ ?_; (focus (simp only [go_sem, *]; done)); simp only [go_sem, *]) | (refine x6 (sh) ?_ ?_; (focus (simp only [go_sem, *]; done)); simp only [go_sem, *]) | (refine x6 (sI2) ?_ ?_; (focus (simp only [go_sem, *]; done)); simp only [go_sem, *]) | ((with_reducible apply And.intro); focus omega) | (refine q7 hK ?_; clear hK; simp only [go_sem, *]) | simp only [q6, z8, go_sem, *])
            all_goals ((try clear ee); first | contradiction | skip)
            (refine ⟨[_, _], [], [], ⟨rfl, rfl, trivial⟩, ?_⟩; simp only [go_sem, *])
        · rw [if_neg q2] at hP
          rw [(Bool.not_eq_true _).mp q2] at sh
          have hP2 : u0 (fun c => if (y5 c).isPrefixOf k = true then (r6 n (k.drop (y5 c).length)).map (c :: ·) else none) (f6 (t + 1)) = T := hP
          clear hP IH hk2 q2
          generalize y5 c = sb at *
          repeat' (first | (refine Qr rfl ?_; try intro _ hK; try simp only [go_sem, *]) | (refine Qi rfl rfl rfl rfl ?_ ?_ <;> (intro hb; (try intro _ hK); have hc := hb; try simp only [go_sem] at hc; simp only [go_sem, *])) | refine Qh rfl ?_ | (refine Qc rfl rfl ?_ ?_ <;> (intro hb; have hc := hb; try simp only [go_sem] at hc)) | refine q8 rfl ?_ | (refine x6 (skd) ?_ ?_; (focus (simp only [go_sem, *]; done)); simp only [go_sem, *]) | (refine x6 (ss) ?_ ?_; (focus (simp only [go_sem, *]; done)); simp only [go_sem, *]) | (refine x6 (sh) ?_ ?_; (focus (simp only [go_sem, *]; done)); simp only [go_sem, *]) | ((with_reducible apply And.intro); focus omega) | (refine q7 hK ?_; clear hK; simp only [go_sem, *]) | simp only [q6, z8, go_sem, *])
          all_goals try contradiction
          exact n0 (i' := t + 1) [] [] (by exact hP2)
      · rw [if_neg q] at hP
        have hk3 : (x9 c != 2) = true := by simpa using fun e => q (hk2.1 e)
        clear hk2 IH q
        generalize x9 c = kb at *
        repeat' (first | (refine Qr rfl ?_; try intro _ hK; try simp only [go_sem, *]) | (refine Qi rfl rfl rfl rfl ?_ ?_ <;> (intro hb; (try intro _ hK); have hc := hb; try simp only [go_sem] at hc; simp only [go_sem, *])) | refine Qh rfl ?_ | (refine Qc rfl rfl ?_ ?_ <;> (intro hb; have hc := hb; try simp only [go_sem] at hc)) | refine q8 rfl ?_ | (refine x6 (skd) ?_ ?_; (focus (simp only [go_sem, *]; done)); simp only [go_sem, *]) | (refine x6 (ss) ?_ ?_; (focus (simp only [go_sem, *]; done)); simp only [go_sem, *]) | ((with_reducible apply And.intro); focus omega) | (refine q7 hK ?_; clear hK; simp only [go_sem, *]) | simp only [q6, z8, go_sem, *])
        all_goals try contradiction
        exact n0 (i' := t + 1) [] [] (by exact hP)
    · have e : f6 t = [] := by
        unfold f6
        rw [show 26 - t = 0 by omega]; rfl
      rw [e] at hP
      have hP2 : none = T := hP
      subst hP2
      have hc1 : ¬ ((65 + t : Nat) : Int) ≤ 90 := by omega
      clear hP e IH
      repeat' (first | (refine Qr rfl ?_; try intro _ hK; try simp only [go_sem, *]) | (refine Qi rfl rfl rfl rfl ?_ ?_ <;> (intro hb; (try intro _ hK); have hc := hb; try simp only [go_sem] at hc; simp only [go_sem, *])) | refine Qh rfl ?_ | (refine Qc rfl rfl ?_ ?_ <;> (intro hb; have hc := hb; try simp only [go_sem] at hc)) | refine q8 rfl ?_ | ((with_reducible apply And.intro); focus omega) | (refine q7 hK ?_; clear hK; simp only [go_sem, *]) | simp only [q6, z8, go_sem, *])
      all_goals try contradiction
      (refine ⟨[_, _], [], [], ⟨rfl, rfl, trivial⟩, ?_⟩; simp only [go_sem, *])
      all_goals rfl
end Go.Abs

namespace Go.Abs
open Go Go.Proofs Tryz
attribute [local irreducible] y3 Hold y8
theorem zGn (s : Str) : zLP prog 42 [sV s] [] (.tup [sV (R5 s), iV (R4 s)]) [] := by
 have s1 := G1 s
 unfold R5 R4
 by_cases q : y9 s = 0
 ·have v := checkN_zero.1 q
  have hkl := (V5 s).2
  have hl6 := v.len
  have s2 := W3 s v.form (by omega)
  have s3 := zCM (zLO s).length (zLO s) (Nat.le_refl _) (by omega)
  rw [if_pos q, if_pos q]
  rw [q] at s1
  have e : J1 (zLO s) = r6 (zLO s).length (zLO s) := rfl
  rw [e]
  generalize r6 (zLO s).length (zLO s) = o at *
  generalize zLO s = k at *
  clear q v e hkl
  cases o with
  | none =>
   have s3 : zLP prog 90 [sV k] [] (.tup [sV [], bV false]) [] := s3
   rw [show (none : Option Str).isSome = false from rfl, if_neg (by decide), show (none : Option Str).getD [] = [] from rfl]
   refine q9 func42 rfl (fun E hE => ?_); simp only [go_sem, ntmps42]
   repeat' (first | (refine Qr rfl ?_; try intro _ hK; try simp only [go_sem, *]) | refine Qh rfl ?_ | (refine Qc rfl rfl ?_ ?_ <;> (intro hb; have hc := hb; try simp only [go_sem] at hc)) | refine q8 rfl ?_ | ((first | refine y2 (s1) ?_ | refine y2 (s2) ?_ | refine y2 (s3) ?_); simp only [go_sem, *]) | ((with_reducible apply And.intro); focus omega) | (refine q7 hK ?_; clear hK; simp only [go_sem, *]) | simp only [q6, z8, go_sem, *])
   all_goals try contradiction
   (refine ⟨[_, _], [], [], ⟨rfl, rfl, trivial⟩, ?_⟩; simp only [go_sem, *])
  | some y =>
   have s3 : zLP prog 90 [sV k] [] (.tup [sV y, bV true]) [] := s3
   rw [show (some y : Option Str).isSome = true from rfl, if_pos rfl, show (some y : Option Str).getD [] = y from rfl]
   refine q9 func42 rfl (fun E hE => ?_); simp only [go_sem, ntmps42]
   repeat' (first | (refine Qr rfl ?_; try intro _ hK; try simp only [go_sem, *]) | refine Qh rfl ?_ | (refine Qc rfl rfl ?_ ?_ <;> (intro hb; have hc := hb; try simp only [go_sem] at hc)) | refine q8 rfl ?_ | ((first | refine y2 (s1) ?_ | refine y2 (s2) ?_ | refine y2 (s3) ?_); simp only [go_sem, *]) | ((with_reducible apply And.intro); focus omega) | (refine q7 hK ?_; clear hK; simp only [go_sem, *]) | simp only [q6, z8, go_sem, *])
   all_goals try contradiction
   (refine ⟨[_, _], [], [], ⟨rfl, rfl, trivial⟩, ?_⟩; simp only [go_sem, *])
 ·rw [if_neg q, if_neg q]
  generalize y9 s = e at *
  refine q9 func42 rfl (fun E hE => ?_); simp only [go_sem, ntmps42]
  repeat' (first | (refine Qr rfl ?_; try intro _ hK; try simp only [go_sem, *]) | refine Qh rfl ?_ | (refine Qc rfl rfl ?_ ?_ <;> (intro hb; have hc := hb; try simp only [go_sem] at hc)) | refine q8 rfl ?_ | (refine y2 (s1) ?_; simp only [go_sem, *]) | ((with_reducible apply And.intro); focus omega) | (refine q7 hK ?_; clear hK; simp only [go_sem, *]) | simp only [q6, z8, go_sem, *])
  all_goals try contradiction
  (refine ⟨[_, _], [], [], ⟨rfl, rfl, trivial⟩, ?_⟩; simp only [go_sem, *])
theorem zCR (c : UInt8) : zLP prog 93 [.raw (.int .u8 (c.toNat : Int))] [] (bV (y7 c)) [] := by
 have e : y7 c = (decide ((c.toNat : Int) ≥ 97) && decide ((c.toNat : Int) ≤ 122)) := by unfold y7; rw [Bool.eq_iff_iff]; simp; omega
 rw [e]
 clear e
 refine q9 func93 rfl (fun E hE => ?_); simp only [go_sem, ntmps93]
 repeat' (first | (refine Qr rfl ?_; try intro _ hK; try simp only [go_sem, *]) | (refine Qi rfl rfl rfl rfl ?_ ?_ <;> (intro hb; (try intro _ hK); have hc := hb; try simp only [go_sem] at hc; simp only [go_sem, *])) | refine Qh rfl ?_ | (refine Qc rfl rfl ?_ ?_ <;> (intro hb; have hc := hb; try simp only [go_sem] at hc)) | refine q8 rfl ?_ | ((with_reducible apply And.intro); focus omega) | (refine q7 hK ?_; clear hK; simp only [go_sem, *]) | simp only [q6, z8, go_sem, *])
 all_goals (refine ⟨[_], [], [], ⟨rfl, trivial⟩, ?_⟩; simp only [go_sem, *])
 all_goals simp_all
theorem zHK (s : Str) (h : 0 < s.length) : zLP prog 46 [sV s] [] (bV (y7 (s.getD 0 0))) [] := by
 have sl := zCR (s.getD 0 0)
 generalize y7 (s.getD 0 0) = b at *
 refine q9 func46 rfl (fun E hE => ?_); simp only [go_sem, ntmps46]
 repeat' (first | (refine Qr rfl ?_; try intro _ hK; try simp only [go_sem, *]) | refine Qh rfl ?_ | (refine Qc rfl rfl ?_ ?_ <;> (intro hb; have hc := hb; try simp only [go_sem] at hc)) | refine q8 rfl ?_ | (refine y2 (sl) ?_; simp only [go_sem, *]) | ((with_reducible apply And.intro); focus omega) | (refine q7 hK ?_; clear hK; simp only [go_sem, *]) | simp only [q6, z8, go_sem, *])
 (refine ⟨[_], [], [], ⟨rfl, trivial⟩, ?_⟩; simp only [go_sem, *])
end Go.Abs

namespace Go.Abs
open Go Go.Proofs Tryz
attribute [local irreducible] y3 Hold y8
def r5 (c : UInt8) : Str := if x5 c = true then y5 c else []
theorem zHx : ∀ n : Nat, n < 91 → 65 ≤ n → IntKind.u8.wrap ((n : Int) - 65) = ((n - 65 : Nat) : Int) := by decide
theorem zHy : ∀ n : Nat, n < 91 → 65 ≤ n → IntKind.u8.wrap (((n - 65 : Nat) : Int) + 97) = ((n + 32 : Nat) : Int) := by decide
theorem zFR : ((List.range 91).all fun n => decide (n < 65) || (n == 67 || (n == 74 || (n == 88 || (n == 89 || (n == 72 || (n == 81 || (n == 87 || decide (r5 (UInt8.ofNat n) = [UInt8.ofNat (n + 32)]))))))))) = true := by kernel_rfl
theorem zHe (n : Nat) (h : n < 91) (h0 : 65 ≤ n) (h1 : n ≠ 67) (h2 : n ≠ 74) (h3 : n ≠ 88) (h4 : n ≠ 89) (h5 : n ≠ 72) (h6 : n ≠ 81) (h7 : n ≠ 87) : r5 (UInt8.ofNat n) = [UInt8.ofNat (n + 32)] := by
 have := List.all_eq_true.1 zFR n (List.mem_range.2 h)
 simp only [Bool.or_eq_true, decide_eq_true_eq, beq_iff_eq] at this
 rcases this with h | h | h | h | h | h | h | h | h
 ·omega
 ·exact absurd h h1
 ·exact absurd h h2
 ·exact absurd h h3
 ·exact absurd h h4
 ·exact absurd h h5
 ·exact absurd h h6
 ·exact absurd h h7
 ·exact h
theorem zHf : ∀ n : Nat, n < 256 → (n < 65 ∨ 90 < n) → r5 (UInt8.ofNat n) = [] := by decide
theorem zAB (c : UInt8) : zLP prog 94 [.raw (.int .u8 (c.toNat : Int))] [] (sV (r5 c)) [] := by
 have hc0 := c.toNat_lt
 have e : r5 c = r5 (UInt8.ofNat c.toNat) := by rw [UInt8.ofNat_toNat]
 rw [e]
 clear e
 generalize c.toNat = n at *
 have hn : n < 256 := hc0
 clear hc0
 by_cases h1 : n < 65 ∨ 90 < n
 ·rw [zHf n hn h1]
  by_cases h2 : n < 65
  ·refine q9 func94 rfl (fun E hE => ?_); simp only [go_sem, ntmps94]
   repeat' (first | (refine Qr rfl ?_; try intro _ hK; try simp only [go_sem, *]) | (refine Qi rfl rfl rfl rfl ?_ ?_ <;> (intro hb; (try intro _ hK); have hc := hb; try simp only [go_sem] at hc; simp only [go_sem, *])) | refine Qh rfl ?_ | (refine Qc rfl rfl ?_ ?_ <;> (intro hb; have hc := hb; try simp only [go_sem] at hc)) | refine q8 rfl ?_ | ((with_reducible apply And.intro); focus omega) | (refine q7 hK ?_; clear hK; simp only [go_sem, *]) | simp only [q6, z8, go_sem, *])
   all_goals first | contradiction | omega | skip
   all_goals (refine ⟨[_], [], [], ⟨rfl, trivial⟩, ?_⟩; simp only [go_sem, *])
  ·have h3 : 90 < n := h1.resolve_left h2
   refine q9 func94 rfl (fun E hE => ?_); simp only [go_sem, ntmps94]
   repeat' (first | (refine Qr rfl ?_; try intro _ hK; try simp only [go_sem, *]) | (refine Qi rfl rfl rfl rfl ?_ ?_ <;> (intro hb; (try intro _ hK); have hc := hb; try simp only [go_sem] at hc; simp only [go_sem, *])) | refine Qh rfl ?_ | (refine Qc rfl rfl ?_ ?_ <;> (intro hb; have hc := hb; try simp only [go_sem] at hc)) | refine q8 rfl ?_ | ((with_reducible apply And.intro); focus omega) | (refine q7 hK ?_; clear hK; simp only [go_sem, *]) | simp only [q6, z8, go_sem, *])
   all_goals first | contradiction | omega | skip
   all_goals (refine ⟨[_], [], [], ⟨rfl, trivial⟩, ?_⟩; simp only [go_sem, *])
 ·have ha : 65 ≤ n := by omega
  have hb0 : n < 91 := by omega
  by_cases h2 : n = 67 ∨ n = 74 ∨ n = 88 ∨ n = 89 ∨ n = 72 ∨ n = 81 ∨ n = 87
  ·rcases h2 with rfl | rfl | rfl | rfl | rfl | rfl | rfl
   all_goals clear h1 ha hb0 hn
   ·have e : r5 (UInt8.ofNat 67) = [99, 104] := by decide
    rw [e]
    refine q9 func94 rfl (fun E hE => ?_); simp only [go_sem, ntmps94]
    repeat' (first | (refine Qr rfl ?_; try intro _ hK; try simp only [go_sem, *]) | (refine Qi rfl rfl rfl rfl ?_ ?_ <;> (intro hb; (try intro _ hK); have hc := hb; try simp only [go_sem] at hc; simp only [go_sem, *])) | refine Qh rfl ?_ | (refine Qc rfl rfl ?_ ?_ <;> (intro hb; have hc := hb; try simp only [go_sem] at hc)) | refine q8 rfl ?_ | ((with_reducible apply And.intro); focus omega) | (refine q7 hK ?_; clear hK; simp only [go_sem, *]) | simp only [q6, z8, go_sem, *])
    all_goals first | contradiction | omega | skip
    all_goals (refine ⟨[_], [], [], ⟨rfl, trivial⟩, ?_⟩; simp only [go_sem, *])
   ·have e : r5 (UInt8.ofNat 74) = [106, 117] := by decide
    rw [e]
    refine q9 func94 rfl (fun E hE => ?_); simp only [go_sem, ntmps94]
    repeat' (first | (refine Qr rfl ?_; try intro _ hK; try simp only [go_sem, *]) | (refine Qi rfl rfl rfl rfl ?_ ?_ <;> (intro hb; (try intro _ hK); have hc := hb; try simp only [go_sem] at hc; simp only [go_sem, *])) | refine Qh rfl ?_ | (refine Qc rfl rfl ?_ ?_ <;> (intro hb; have hc := hb; try simp only [go_sem] at hc)) | refine q8 rfl ?_ | ((with_reducible apply And.intro); focus omega) | (refine q7 hK ?_; clear hK; simp only [go_sem, *]) | simp only [q6, z8, go_sem, *])
    all_goals first | contradiction | omega | skip
    all_goals (refine ⟨[_], [], [], ⟨rfl, trivial⟩, ?_⟩; simp only [go_sem, *])
   ·have e : r5 (UInt8.ofNat 88) = [115, 104] := by decide
    rw [e]
    refine q9 func94 rfl (fun E hE => ?_); simp only [go_sem, ntmps94]
    repeat' (first | (refine Qr rfl ?_; try intro _ hK; try simp only [go_sem, *]) | (refine Qi rfl rfl rfl rfl ?_ ?_ <;> (intro hb; (try intro _ hK); have hc := hb; try simp only [go_sem] at hc; simp only [go_sem, *])) | refine Qh rfl ?_ | (refine Qc rfl rfl ?_ ?_ <;> (intro hb; have hc := hb; try simp only [go_sem] at hc)) | refine q8 rfl ?_ | ((with_reducible apply And.intro); focus omega) | (refine q7 hK ?_; clear hK; simp only [go_sem, *]) | simp only [q6, z8, go_sem, *])
    all_goals first | contradiction | omega | skip
    all_goals (refine ⟨[_], [], [], ⟨rfl, trivial⟩, ?_⟩; simp only [go_sem, *])
   ·have e : r5 (UInt8.ofNat 89) = [106, 97] := by decide
    rw [e]
    refine q9 func94 rfl (fun E hE => ?_); simp only [go_sem, ntmps94]
    repeat' (first | (refine Qr rfl ?_; try intro _ hK; try simp only [go_sem, *]) | (refine Qi rfl rfl rfl rfl ?_ ?_ <;> (intro hb; (try intro _ hK); have hc := hb; try simp only [go_sem] at hc; simp only [go_sem, *])) | refine Qh rfl ?_ | (refine Qc rfl rfl ?_ ?_ <;> (intro hb; have hc := hb; try simp only [go_sem] at hc)) | refine q8 rfl ?_ | ((with_reducible apply And.intro); focus omega) | (refine q7 hK ?_; clear hK; simp only [go_sem, *]) | simp only [q6, z8, go_sem, *])
    all_goals first | contradiction | omega | skip
    all_goals (refine ⟨[_], [], [], ⟨rfl, trivial⟩, ?_⟩; simp only [go_sem, *])
   ·have e : r5 (UInt8.ofNat 72) = [] := by decide
    rw [e]
    refine q9 func94 rfl (fun E hE => ?_); simp only [go_sem, ntmps94]
    repeat' (first | (refine Qr rfl ?_; try intro _ hK; try simp only [go_sem, *]) | (refine Qi rfl rfl rfl rfl ?_ ?_ <;> (intro hb; (try intro _ hK); have hc := hb; try simp only [go_sem] at hc; simp only [go_sem, *])) | refine Qh rfl ?_ | (refine Qc rfl rfl ?_ ?_ <;> (intro hb; have hc := hb; try simp only [go_sem] at hc)) | refine q8 rfl ?_ | ((with_reducible apply And.intro); focus omega) | (refine q7 hK ?_; clear hK; simp only [go_sem, *]) | simp only [q6, z8, go_sem, *])
    all_goals first | contradiction | omega | skip
    all_goals (refine ⟨[_], [], [], ⟨rfl, trivial⟩, ?_⟩; simp only [go_sem, *])
   ·have e : r5 (UInt8.ofNat 81) = [] := by decide
    rw [e]
    refine q9 func94 rfl (fun E hE => ?_); simp only [go_sem, ntmps94]
    repeat' (first | (refine Qr rfl ?_; try intro _ hK; try simp only [go_sem, *]) | (refine Qi rfl rfl rfl rfl ?_ ?_ <;> (intro hb; (try intro _ hK); have hc := hb; try simp only [go_sem] at hc; simp only [go_sem, *])) | refine Qh rfl ?_ | (refine Qc rfl rfl ?_ ?_ <;> (intro hb; have hc := hb; try simp only [go_sem] at hc)) | refine q8 rfl ?_ | ((with_reducible apply And.intro); focus omega) | (refine q7 hK ?_; clear hK; simp only [go_sem, *]) | simp only [q6, z8, go_sem, *])
    all_goals first | contradiction | omega | skip
    all_goals (refine ⟨[_], [], [], ⟨rfl, trivial⟩, ?_⟩; simp only [go_sem, *])
   ·have e : r5 (UInt8.ofNat 87) = [] := by decide
    rw [e]
    refine q9 func94 rfl (fun E hE => ?_); simp only [go_sem, ntmps94]
    repeat' (first | (refine Qr rfl ?_; try intro _ hK; try simp only [go_sem, *]) | (refine Qi rfl rfl rfl rfl ?_ ?_ <;> (intro hb; (try intro _ hK); have hc := hb; try simp only [go_sem] at hc; simp only [go_sem, *])) | refine Qh rfl ?_ | (refine Qc rfl rfl ?_ ?_ <;> (intro hb; have hc := hb; try simp only [go_sem] at hc)) | refine q8 rfl ?_ | ((with_reducible apply And.intro); focus omega) | (refine q7 hK ?_; clear hK; simp only [go_sem, *]) | simp only [q6, z8, go_sem, *])
    all_goals first | contradiction | omega | skip
    all_goals (refine ⟨[_], [], [], ⟨rfl, trivial⟩, ?_⟩; simp only [go_sem, *])
  ·have e := zHe n hb0 ha (by omega) (by omega) (by omega) (by omega) (by omega) (by omega) (by omega)
   rw [e]
   have hw1 := zHx n hb0 ha
   have hw2 := zHy n hb0 ha
   have z1 : ((n : Int) == 67) = false := by rw [beq_eq_false_iff_ne]; omega
   have z2 : ((n : Int) == 74) = false := by rw [beq_eq_false_iff_ne]; omega
   have z3 : ((n : Int) == 88) = false := by rw [beq_eq_false_iff_ne]; omega
   have z4 : ((n : Int) == 89) = false := by rw [beq_eq_false_iff_ne]; omega
   have z5 : ((n : Int) == 72) = false := by rw [beq_eq_false_iff_ne]; omega
   have z6 : ((n : Int) == 81) = false := by rw [beq_eq_false_iff_ne]; omega
   have z7 : ((n : Int) == 87) = false := by rw [beq_eq_false_iff_ne]; omega
   have g1 : (n : Int) ≥ 65 := by omega
   have g2 : (n : Int) ≤ 90 := by omega
   clear e h1 h2
   refine q9 func94 rfl (fun E hE => ?_); simp only [go_sem, ntmps94]
   repeat' (first | (refine Qr rfl ?_; try intro _ hK; try simp only [go_sem, *]) | (refine Qi rfl rfl rfl rfl ?_ ?_ <;> (intro hb; (try intro _ hK); have hc := hb; try simp only [go_sem] at hc; simp only [go_sem, *])) | refine Qh rfl ?_ | (refine Qc rfl rfl ?_ ?_ <;> (intro hb; have hc := hb; try simp only [go_sem] at hc)) | refine q8 rfl ?_ | ((with_reducible apply And.intro); focus omega) | (refine q7 hK ?_; clear hK; simp only [go_sem, *]) | simp only [q6, z8, go_sem, *])
   all_goals first | contradiction | omega | skip
   all_goals (refine ⟨[_], [], [], ⟨rfl, trivial⟩, ?_⟩; simp only [go_sem, *])
end Go.Abs

namespace Go.Abs
open Go Go.Proofs Tryz
attribute [local irreducible] y3 Hold y8
def W5 (s : Str) (i a b : Nat) : Prop := a = (s.take i).countP y7 ∧ b = (s.take i).countP x5
theorem zHd (c : UInt8) : (r5 c == ([] : Str)) = !x5 c := by
 unfold r5
 cases h : x5 c
 ·rfl
 ·have := (Q7 c).1
  rw [if_pos rfl]
  cases hs : y5 c with
  | nil => rw [hs] at this; simp at this
  | cons a r => rfl
theorem zAA (s : Str) (hl : s.length ≤ 4294967296) : zLP prog 45 [sV s] [] (iV (y9 s)) [] := by
  unfold y9
  by_cases q0 : s.length = 0
  · rw [if_pos q0]
    have q0i : ((s.length : Int) == 0) = true := by rw [q0]; rfl
    refine q9 func45 rfl (fun E hE => ?_); simp only [go_sem, ntmps45]
    repeat' (first | (refine Qr rfl ?_; try intro _ hK; try simp only [go_sem, *]) | (refine Qi rfl rfl rfl rfl ?_ ?_ <;> (intro hb; (try intro _ hK); have hc := hb; try simp only [go_sem] at hc; simp only [go_sem, *])) | refine Qh rfl ?_ | (refine Qc rfl rfl ?_ ?_ <;> (intro hb; have hc := hb; try simp only [go_sem] at hc)) | refine q8 rfl ?_ | ((with_reducible apply And.intro); focus omega) | (refine q7 hK ?_; clear hK; simp only [go_sem, *]) | simp only [q6, z8, go_sem, *])
    all_goals first | contradiction | omega | skip
    all_goals (refine ⟨[_], [], [], ⟨rfl, trivial⟩, ?_⟩; simp only [go_sem, *])
  · rw [if_neg q0]
    have q0i : ((s.length : Int) == 0) = false := by rw [beq_eq_false_iff_ne]; omega
    by_cases q1 : 6 < s.length
    · rw [if_pos q1]
      have q1i : (s.length : Int) > 6 := by omega
      refine q9 func45 rfl (fun E hE => ?_); simp only [go_sem, ntmps45]
      repeat' (first | (refine Qr rfl ?_; try intro _ hK; try simp only [go_sem, *]) | (refine Qi rfl rfl rfl rfl ?_ ?_ <;> (intro hb; (try intro _ hK); have hc := hb; try simp only [go_sem] at hc; simp only [go_sem, *])) | refine Qh rfl ?_ | (refine Qc rfl rfl ?_ ?_ <;> (intro hb; have hc := hb; try simp only [go_sem] at hc)) | refine q8 rfl ?_ | ((with_reducible apply And.intro); focus omega) | (refine q7 hK ?_; clear hK; simp only [go_sem, *]) | simp only [q6, z8, go_sem, *])
      all_goals first | contradiction | omega | skip
      all_goals (refine ⟨[_], [], [], ⟨rfl, trivial⟩, ?_⟩; simp only [go_sem, *])
    · rw [if_neg q1]
      have q1i : ¬ (s.length : Int) > 6 := by omega
      refine q9 func45 rfl (fun E hE => ?_); simp only [go_sem, ntmps45]
      repeat' (first | (refine Qr rfl ?_; try intro _ hK; try simp only [go_sem, *]) | (refine Qi rfl rfl rfl rfl ?_ ?_ <;> (intro hb; (try intro _ hK); have hc := hb; try simp only [go_sem] at hc; simp only [go_sem, *])) | refine Qh rfl ?_ | (refine Qc rfl rfl ?_ ?_ <;> (intro hb; have hc := hb; try simp only [go_sem] at hc)) | refine q8 rfl ?_ | ((with_reducible apply And.intro); focus omega) | (refine q7 hK ?_; clear hK; simp only [go_sem, *]) | simp only [q6, z8, go_sem, *])
      all_goals first | contradiction | omega | skip
      refine J8 rfl (s.length) (fun i (a : Nat) (b : Nat) => W5 s i a b) 41 (fun i a b => [(5, iV i), (3, iV a), (4, iV b), (0, sV s)]) (fun i a b => []) [] [] (0) (0) (by exact ⟨rfl, rfl⟩) ?_; intro i a b hi hP
      by_cases hi2 : i < s.length
      · have hii : (i : Int) < (s.length : Int) := by omega
        have hwi : IntKind.i64.wrap ((i : Int) + 1) = ((i + 1 : Nat) : Int) := u5 (by omega)
        have hab : a ≤ i ∧ b ≤ i := by
          obtain ⟨h1, h2⟩ := hP
          have e1 := List.countP_le_length (p := y7) (l := s.take i)
          have e2 := List.countP_le_length (p := x5) (l := s.take i)
          simp only [List.length_take] at e1 e2
          omega
        have hwa : IntKind.i64.wrap ((a : Int) + 1) = ((a + 1 : Nat) : Int) := u5 (by omega)
        have hwb : IntKind.i64.wrap ((b : Int) + 1) = ((b + 1 : Nat) : Int) := u5 (by omega)
        have sl := zCR (s.getD i 0)
        have ss := zAB (s.getD i 0)
        have he := zHd (s.getD i 0)
        have hn : W5 s (i + 1) (if y7 (s.getD i 0) = true then a + 1 else a) (if x5 (s.getD i 0) = true then b + 1 else b) := by
          obtain ⟨h1, h2⟩ := hP
          have hd : s.getD i default = s.getD i 0 := rfl
          unfold W5
          rw [G3 hi2, hd, List.countP_append, List.countP_append, ← h1, ← h2]
          constructor
          · rw [List.countP_cons, List.countP_nil]; cases y7 (s.getD i 0) <;> simp
          · rw [List.countP_cons, List.countP_nil]; cases x5 (s.getD i 0) <;> simp
        clear hP hab
        generalize r5 (s.getD i 0) = st at *
        generalize y7 (s.getD i 0) = la at *
        generalize x5 (s.getD i 0) = ob at *
        cases la
        · cases ob
          · have hn : W5 s (i + 1) a b := hn
            have he : (st == ([] : Str)) = true := he
            have he : st = [] := by simpa using he
            subst he
            repeat' (first | (refine Qr rfl ?_; try intro _ hK; try simp only [go_sem, *]) | (refine Qi rfl rfl rfl rfl ?_ ?_ <;> (intro hb; (try intro _ hK); have hc := hb; try simp only [go_sem] at hc; simp only [go_sem, *])) | refine Qh rfl ?_ | (refine Qc rfl rfl ?_ ?_ <;> (intro hb; have hc := hb; try simp only [go_sem] at hc)) | refine q8 rfl ?_ | ((first | refine y2 (sl) ?_ | refine y2 (ss) ?_); simp only [go_sem, *]) | ((with_reducible apply And.intro); focus omega) | (refine q7 hK ?_; clear hK; simp only [go_sem, *]) | simp only [q6, z8, go_sem, *])
            all_goals first | contradiction | omega | skip
            exact V6 (i' := i + 1) [] [] (a) (b) (by exact hn)
          · have hn : W5 s (i + 1) a (b + 1) := hn
            have he : (st == ([] : Str)) = false := he
            repeat' (first | (refine Qr rfl ?_; try intro _ hK; try simp only [go_sem, *]) | (refine Qi rfl rfl rfl rfl ?_ ?_ <;> (intro hb; (try intro _ hK); have hc := hb; try simp only [go_sem] at hc; simp only [go_sem, *])) | refine Qh rfl ?_ | (refine Qc rfl rfl ?_ ?_ <;> (intro hb; have hc := hb; try simp only [go_sem] at hc)) | refine q8 rfl ?_ | ((first | refine y2 (sl) ?_ | refine y2 (ss) ?_); simp only [go_sem, *]) | ((with_reducible apply And.intro); focus omega) | (refine q7 hK ?_; clear hK; simp only [go_sem, *]) | simp only [q6, z8, go_sem, *])
            all_goals first | contradiction | omega | skip
            exact V6 (i' := i + 1) [] [] (a) (b + 1) (by exact hn)
        · cases ob
          · have hn : W5 s (i + 1) (a + 1) b := hn
            have he : (st == ([] : Str)) = true := he
            have he : st = [] := by simpa using he
            subst he
            repeat' (first | (refine Qr rfl ?_; try intro _ hK; try simp only [go_sem, *]) | (refine Qi rfl rfl rfl rfl ?_ ?_ <;> (intro hb; (try intro _ hK); have hc := hb; try simp only [go_sem] at hc; simp only [go_sem, *])) | refine Qh rfl ?_ | (refine Qc rfl rfl ?_ ?_ <;> (intro hb; have hc := hb; try simp only [go_sem] at hc)) | refine q8 rfl ?_ | ((first | refine y2 (sl) ?_ | refine y2 (ss) ?_); simp only [go_sem, *]) | ((with_reducible apply And.intro); focus omega) | (refine q7 hK ?_; clear hK; simp only [go_sem, *]) | simp only [q6, z8, go_sem, *])
            all_goals first | contradiction | omega | skip
            exact V6 (i' := i + 1) [] [] (a + 1) (b) (by exact hn)
          · have hn : W5 s (i + 1) (a + 1) (b + 1) := hn
            have he : (st == ([] : Str)) = false := he
            repeat' (first | (refine Qr rfl ?_; try intro _ hK; try simp only [go_sem, *]) | (refine Qi rfl rfl rfl rfl ?_ ?_ <;> (intro hb; (try intro _ hK); have hc := hb; try simp only [go_sem] at hc; simp only [go_sem, *])) | refine Qh rfl ?_ | (refine Qc rfl rfl ?_ ?_ <;> (intro hb; have hc := hb; try simp only [go_sem] at hc)) | refine q8 rfl ?_ | ((first | refine y2 (sl) ?_ | refine y2 (ss) ?_); simp only [go_sem, *]) | ((with_reducible apply And.intro); focus omega) | (refine q7 hK ?_; clear hK; simp only [go_sem, *]) | simp only [q6, z8, go_sem, *])
            all_goals first | contradiction | omega | skip
            exact V6 (i' := i + 1) [] [] (a + 1) (b + 1) (by exact hn)
      · have hii : ¬ (i : Int) < (s.length : Int) := by omega
        obtain ⟨h1, h2⟩ := hP
        rw [List.take_of_length_le (by omega)] at h1 h2
        have k1 : (a < s.length) ↔ s.all y7 = false := by
          have := List.countP_le_length (p := y7) (l := s)
          have e := List.countP_eq_length (p := y7) (l := s)
          rw [← h1] at this e
          rw [List.all_eq_false]
          constructor
          · intro h
            by_cases hx : ∃ x, x ∈ s ∧ ¬ y7 x = true
            · exact hx
            · have := e.2 (fun x hx2 => by
                cases hq : y7 x with
                | true => rfl
                | false => exact absurd ⟨x, hx2, by rw [hq]; decide⟩ hx)
              omega
          · rintro ⟨x, hx, hn⟩
            by_cases ha : a = s.length
            · exact absurd (e.1 ha x hx) hn
            · omega
        have k2 : (b < s.length) ↔ s.all x5 = false := by
          have := List.countP_le_length (p := x5) (l := s)
          have e := List.countP_eq_length (p := x5) (l := s)
          rw [← h2] at this e
          rw [List.all_eq_false]
          constructor
          · intro h
            by_cases hx : ∃ x, x ∈ s ∧ ¬ x5 x = true
            · exact hx
            · have := e.2 (fun x hx2 => by
                cases hq : x5 x with
                | true => rfl
                | false => exact absurd ⟨x, hx2, by rw [hq]; decide⟩ hx)
              omega
          · rintro ⟨x, hx, hn⟩
            by_cases ha : b = s.length
            · exact absurd (e.1 ha x hx) hn
            · omega
        have hfb : o9 s = (s.all y7 || s.all x5) := rfl
        rw [hfb]
        clear h1 h2 hfb
        generalize s.all y7 = la at *
        generalize s.all x5 = ob at *
        cases la
        · have a1 : (a : Int) < (s.length : Int) := by have := k1.2 rfl; omega
          cases ob
          · have b1 : (b : Int) < (s.length : Int) := by have := k2.2 rfl; omega
            clear k1 k2
            repeat' (first | (refine Qr rfl ?_; try intro _ hK; try simp only [go_sem, *]) | (refine Qi rfl rfl rfl rfl ?_ ?_ <;> (intro hb; (try intro _ hK); have hc := hb; try simp only [go_sem] at hc; simp only [go_sem, *])) | refine Qh rfl ?_ | (refine Qc rfl rfl ?_ ?_ <;> (intro hb; have hc := hb; try simp only [go_sem] at hc)) | refine q8 rfl ?_ | ((with_reducible apply And.intro); focus omega) | (refine q7 hK ?_; clear hK; simp only [go_sem, *]) | simp only [q6, z8, go_sem, *])
            all_goals first | contradiction | omega | skip
            (refine ⟨[_], [], [], ⟨rfl, trivial⟩, ?_⟩; simp only [go_sem, *])
          · have b1 : ¬ (b : Int) < (s.length : Int) := fun h => by have := k2.1 (by omega); cases this
            clear k1 k2
            repeat' (first | (refine Qr rfl ?_; try intro _ hK; try simp only [go_sem, *]) | (refine Qi rfl rfl rfl rfl ?_ ?_ <;> (intro hb; (try intro _ hK); have hc := hb; try simp only [go_sem] at hc; simp only [go_sem, *])) | refine Qh rfl ?_ | (refine Qc rfl rfl ?_ ?_ <;> (intro hb; have hc := hb; try simp only [go_sem] at hc)) | refine q8 rfl ?_ | ((with_reducible apply And.intro); focus omega) | (refine q7 hK ?_; clear hK; simp only [go_sem, *]) | simp only [q6, z8, go_sem, *])
            all_goals first | contradiction | omega | skip
            (refine ⟨[_], [], [], ⟨rfl, trivial⟩, ?_⟩; simp only [go_sem, *])
        · have a1 : ¬ (a : Int) < (s.length : Int) := fun h => by have := k1.1 (by omega); cases this
          clear k1 k2
          repeat' (first | (refine Qr rfl ?_; try intro _ hK; try simp only [go_sem, *]) | (refine Qi rfl rfl rfl rfl ?_ ?_ <;> (intro hb; (try intro _ hK); have hc := hb; try simp only [go_sem] at hc; simp only [go_sem, *])) | refine Qh rfl ?_ | (refine Qc rfl rfl ?_ ?_ <;> (intro hb; have hc := hb; try simp only [go_sem] at hc)) | refine q8 rfl ?_ | ((with_reducible apply And.intro); focus omega) | (refine q7 hK ?_; clear hK; simp only [go_sem, *]) | simp only [q6, z8, go_sem, *])
          all_goals first | contradiction | omega | skip
          (refine ⟨[_], [], [], ⟨rfl, trivial⟩, ?_⟩; simp only [go_sem, *])
theorem zCQ (s : Str) (v : ValidN s) : zLP prog 84 [sV s] [] (sV (zLO s)) [] := by
 have sl := zHK s v.ne
 have hl6 := v.len
 cases hla : y7 (s.getD 0 0)
 ·rw [hla] at sl
  have ho := v.other hla
  clear hla
  refine q9 func84 rfl (fun E hE => ?_); simp only [go_sem, ntmps84]
  repeat' (first | (refine Qr rfl ?_; try intro _ hK; try simp only [go_sem, *]) | refine Qh rfl ?_ | (refine Qc rfl rfl ?_ ?_ <;> (intro hb; have hc := hb; try simp only [go_sem] at hc)) | refine q8 rfl ?_ | (refine y2 (sl) ?_; simp only [go_sem, *]) | ((with_reducible apply And.intro); focus omega) | (refine q7 hK ?_; clear hK; simp only [go_sem, *]) | simp only [q6, z8, go_sem, *])
  all_goals try contradiction
  refine r8 rfl (s.length) (fun i => NoQ i) 21 (fun i => [(4, iV i), (3, sV (zLO (s.take i))), (0, sV s)]) (fun i => []) [] [] (by trivial) ?_; intro i hi hP
  have hk2 := zBL s i
  by_cases hi2 : i < s.length
  ·have hii : (i : Int) < (s.length : Int) := by omega
   have hwi : IntKind.i64.wrap ((i : Int) + 1) = ((i + 1 : Nat) : Int) := u5 (by omega)
   have ss := zAB (s.getD i 0)
   have hob : x5 (s.getD i 0) = true := List.all_eq_true.1 ho _ (by simp [List.getD, hi2])
   have e : r5 (s.getD i 0) = y5 (s.getD i 0) := by unfold r5; rw [if_pos hob]
   rw [e] at ss
   have hs2 := (Q7 (s.getD i 0)).2
   have hkt := zBM hi2
   generalize y5 (s.getD i 0) = sb at *
   generalize zLO (s.take i) = kt at *
   clear e hob ho
   repeat' (first | (refine Qr rfl ?_; try intro _ hK; try simp only [go_sem, *]) | refine Qh rfl ?_ | (refine Qc rfl rfl ?_ ?_ <;> (intro hb; have hc := hb; try simp only [go_sem] at hc)) | refine q8 rfl ?_ | (refine y2 (ss) ?_; simp only [go_sem, *]) | ((with_reducible apply And.intro); focus omega) | (refine q7 hK ?_; clear hK; simp only [go_sem, *]) | simp only [q6, z8, go_sem, *])
   all_goals first | contradiction | omega | skip
   exact n0 (i' := i + 1) [] [] (by trivial)
  ·have e : s.take i = s := List.take_of_length_le (by omega)
   have hii : ¬ (i : Int) < (s.length : Int) := by omega
   rw [e]
   clear hk2 ho
   repeat' (first | (refine Qr rfl ?_; try intro _ hK; try simp only [go_sem, *]) | refine Qh rfl ?_ | (refine Qc rfl rfl ?_ ?_ <;> (intro hb; have hc := hb; try simp only [go_sem] at hc)) | refine q8 rfl ?_ | ((with_reducible apply And.intro); focus omega) | (refine q7 hK ?_; clear hK; simp only [go_sem, *]) | simp only [q6, z8, go_sem, *])
   all_goals first | contradiction | omega | skip
   (refine ⟨[_], [], [], ⟨rfl, trivial⟩, ?_⟩; simp only [go_sem, *])
 ·rw [hla] at sl
  have hk := D7 (v.latin hla)
  rw [hk]
  clear hla hk
  refine q9 func84 rfl (fun E hE => ?_); simp only [go_sem, ntmps84]
  repeat' (first | (refine Qr rfl ?_; try intro _ hK; try simp only [go_sem, *]) | refine Qh rfl ?_ | (refine Qc rfl rfl ?_ ?_ <;> (intro hb; have hc := hb; try simp only [go_sem] at hc)) | refine q8 rfl ?_ | (refine y2 (sl) ?_; simp only [go_sem, *]) | ((with_reducible apply And.intro); focus omega) | (refine q7 hK ?_; clear hK; simp only [go_sem, *]) | simp only [q6, z8, go_sem, *])
  all_goals try contradiction
  (refine ⟨[_], [], [], ⟨rfl, trivial⟩, ?_⟩; simp only [go_sem, *])
theorem zHJ (s : Str) (hl : s.length ≤ 4294967296) : zLP prog 41 [sV s] [] (.tup [sV (if y9 s = 0 then zLO s else []), iV (y9 s)]) [] := by
 have s1 := zAA s hl
 by_cases q : y9 s = 0
 ·have s2 := zCQ s (checkN_zero.1 q)
  rw [if_pos q]
  rw [q] at s1 ⊢
  generalize zLO s = k at *
  clear q
  refine q9 func41 rfl (fun E hE => ?_); simp only [go_sem, ntmps41]
  repeat' (first | (refine Qr rfl ?_; try intro _ hK; try simp only [go_sem, *]) | refine Qh rfl ?_ | (refine Qc rfl rfl ?_ ?_ <;> (intro hb; have hc := hb; try simp only [go_sem] at hc)) | refine q8 rfl ?_ | ((first | refine y2 (s1) ?_ | refine y2 (s2) ?_); simp only [go_sem, *]) | ((with_reducible apply And.intro); focus omega) | (refine q7 hK ?_; clear hK; simp only [go_sem, *]) | simp only [q6, z8, go_sem, *])
  all_goals try contradiction
  (refine ⟨[_, _], [], [], ⟨rfl, rfl, trivial⟩, ?_⟩; simp only [go_sem, *])
 ·rw [if_neg q]
  generalize y9 s = e at *
  refine q9 func41 rfl (fun E hE => ?_); simp only [go_sem, ntmps41]
  repeat' (first | (refine Qr rfl ?_; try intro _ hK; try simp only [go_sem, *]) | refine Qh rfl ?_ | (refine Qc rfl rfl ?_ ?_ <;> (intro hb; have hc := hb; try simp only [go_sem] at hc)) | refine q8 rfl ?_ | (refine y2 (s1) ?_; simp only [go_sem, *]) | ((with_reducible apply And.intro); focus omega) | (refine q7 hK ?_; clear hK; simp only [go_sem, *]) | simp only [q6, z8, go_sem, *])
  all_goals try contradiction
  (refine ⟨[_, _], [], [], ⟨rfl, rfl, trivial⟩, ?_⟩; simp only [go_sem, *])
end Go.Abs

namespace Go.Abs
open Go Go.Proofs Tryz
theorem B4 : ∀ (n : Nat) (k o : Str), o ∈ u9 n k → o.all x5 = true ∧ zLO o = k
 | n, [], o, h => by
  have e : u9 n [] = [[]] := by cases n <;> rfl
  rw [e] at h
  rw [List.mem_singleton.1 h]; exact ⟨rfl, rfl⟩
 | 0, a :: r, o, h => by cases h
 | n + 1, a :: r, o, h => by
  rw [u9] at h
  obtain ⟨c, hc, h⟩ := List.mem_flatMap.1 h
  split at h
  ·rename_i hp
   obtain ⟨y, hy, rfl⟩ := List.mem_map.1 h
   obtain ⟨h1, h2⟩ := B4 n _ y hy
   refine ⟨by rw [List.all_cons, mem_otherL.1 hc, h1]; rfl, ?_⟩
   have e : zLO (c :: y) = y5 c ++ zLO y := rfl
   rw [e, h2]
   exact (B9 hp).symm
  ·cases h
theorem zBt : ∀ (n : Nat) (k : Str), (u9 n k).Nodup
 | n, [] => by
  have e : u9 n [] = [[]] := by cases n <;> rfl
  rw [e]; simp
 | 0, a :: r => List.nodup_nil
 | n + 1, a :: r => by
  rw [u9]
  have hl : otherL.Nodup := by decide
  refine Go.Abs.pairwise_flatMap (S := fun x y => x ≠ y) (fun c _ => ?_) hl (fun x y hxy z h1 w h2 => ?_)
  ·split
   ·rw [List.pairwise_map]
    exact (zBt n _).imp (fun h e => h (List.cons.inj e).2)
   ·exact List.nodup_nil
  ·rintro rfl
   have hx : ∃ u, z = x :: u := by
    split at h1
    ·obtain ⟨u, _, rfl⟩ := List.mem_map.1 h1; exact ⟨u, rfl⟩
    ·cases h1
   have hy : ∃ u, z = y :: u := by
    split at h2
    ·obtain ⟨u, _, rfl⟩ := List.mem_map.1 h2; exact ⟨u, rfl⟩
    ·cases h2
   obtain ⟨u, rfl⟩ := hx
   obtain ⟨v, e⟩ := hy
   exact hxy (List.cons.inj e).1
theorem B3 (n : Nat) (k : Str) : (u9 n k).length ≤ 1 := by
 have hn := zBt n k
 have hs := fun o => B4 n k o
 generalize u9 n k = L at *
 match L with
 | [] => simp
 | [_] => simp
 | a :: b :: r =>
  exfalso
  obtain ⟨a1, a2⟩ := hs a (by simp)
  obtain ⟨b1, b2⟩ := hs b (by simp)
  have : a = b := zBO a1 b1 (by rw [a2, b2])
  rw [this] at hn
  simp at hn
end Go.Abs

namespace Go.Abs
open Go Go.Proofs Tryz
attribute [local irreducible] y3 Hold y8
def B2 (n : Nat) (k : Str) (c : UInt8) : List Str := if (y5 c).isPrefixOf k = true then (u9 n (k.drop (y5 c).length)).map (c :: ·) else []
def j4 (n : Nat) (k : Str) (t : Nat) : List Str := (f6 t).flatMap (B2 n k)
theorem zFe (n : Nat) (a : UInt8) (r : Str) : j4 n (a :: r) 0 = u9 (n + 1) (a :: r) := by
 unfold j4
 rw [zBs]; rfl
theorem zFd {n : Nat} {k : Str} {t : Nat} (h : t < 26) : j4 n k t = (if x5 (UInt8.ofNat (65 + t)) = true then B2 n k (UInt8.ofNat (65 + t)) else []) ++ j4 n k (t + 1) := by
 unfold j4
 rw [zBr h]
 split <;> simp
theorem zHz : ∀ t : Nat, t < 27 → IntKind.u8.wrap (((65 + t : Nat) : Int) + 1) = ((65 + (t + 1) : Nat) : Int) := by decide
theorem prefix_take {a k : Str} : a.isPrefixOf k = true ↔ a.length ≤ k.length ∧ k.take a.length = a := by
 constructor
 ·intro h
  have h1 := I9 h
  have h2 := B9 h
  refine ⟨h1, ?_⟩
  rw [h2]; simp
 ·rintro ⟨h1, h2⟩
  rw [List.isPrefixOf_iff_prefix, ← h2]
  exact List.take_prefix _ _
theorem zCS : ∀ (n : Nat) (k : Str), k.length ≤ n → k.length ≤ 1000 → zLP prog 91 [sV k] [] (.own 0 1 0 (u9 n k).length) [.row 1 ((u9 n k).map sV)]
  | n, [], _, _ => by
    have e : u9 n [] = [[]] := by cases n <;> rfl
    rw [e]
    refine q9 func91 rfl (fun E hE => ?_); simp only [go_sem, ntmps91]
    repeat' (first | (refine Qr rfl ?_; try intro _ hK; try simp only [go_sem, *]) | (refine Qi rfl rfl rfl rfl ?_ ?_ <;> (intro hb; (try intro _ hK); have hc := hb; try simp only [go_sem] at hc; simp only [go_sem, *])) | refine Qh rfl ?_ | refine Qd rfl (by kernel_rfl) ?_ | (refine Qc rfl rfl ?_ ?_ <;> (intro hb; have hc := hb; try simp only [go_sem] at hc)) | refine q8 rfl ?_ | (refine Qb ?_ ?_; focus kernel_rfl) | ((with_reducible apply And.intro); focus omega) | (refine q7 hK ?_; clear hK; simp only [go_sem, *]) | simp only [q6, z8, go_sem, *])
    all_goals try contradiction
    refine ⟨[_], [some 0], [], ⟨rfl, trivial⟩, ?_⟩
    simp only [go_sem, *]
  | 0, a :: r, h, _ => by simp at h
  | n + 1, a :: r, h, hk => by
    have IH := zCS n
    have hT1 := B3 (n + 1) (a :: r)
    have h0 : [] ++ j4 n (a :: r) 0 = u9 (n + 1) (a :: r) := zFe n a r
    have hne : (a :: r == []) = false := rfl
    generalize hkk : a :: r = k at *
    have hk0 : 0 < k.length := by rw [← hkk]; simp
    clear hkk
    generalize u9 (n + 1) k = T at *
    refine q9 func91 rfl (fun E hE => ?_); simp only [go_sem, ntmps91]
    repeat' (first | (refine Qr rfl ?_; try intro _ hK; try simp only [go_sem, *]) | (refine Qi rfl rfl rfl rfl ?_ ?_ <;> (intro hb; (try intro _ hK); have hc := hb; try simp only [go_sem] at hc; simp only [go_sem, *])) | refine Qh rfl ?_ | refine Qd rfl (by kernel_rfl) ?_ | (refine Qc rfl rfl ?_ ?_ <;> (intro hb; have hc := hb; try simp only [go_sem] at hc)) | refine q8 rfl ?_ | (refine Qb ?_ ?_; focus kernel_rfl) | ((with_reducible apply And.intro); focus omega) | (refine q7 hK ?_; clear hK; simp only [go_sem, *]) | simp only [q6, z8, go_sem, *])
    all_goals try contradiction
    refine c0 rfl (26) (fun t (acc : List Str) => acc ++ j4 n k t = T) 57 (fun t acc => [(4, .raw (.int .u8 ((65 + t : Nat) : Int))), (3, .own 0 1 0 acc.length), (0, sV k)]) (fun t acc => [.row 1 (acc.map sV)]) [none] [] ([]) (by exact h0) ?_; intro t acc ht hP
    clear h0
    by_cases ht : t < 26
    · have hw := zHz t (by omega)
      have hc1 : ((65 + t : Nat) : Int) ≤ 90 := by omega
      rw [zFd ht] at hP
      obtain ⟨c, hc⟩ : ∃ c, UInt8.ofNat (65 + t) = c := ⟨_, rfl⟩
      have hcn : c.toNat = 65 + t := by rw [← hc, UInt8.toNat_ofNat']; omega
      rw [hc] at hP
      have ss := zAB c
      rw [hcn] at ss
      by_cases q : x5 c = true
      · have e : r5 c = y5 c := by unfold r5; rw [if_pos q]
        rw [e] at ss
        rw [if_pos q] at hP
        have hsl := Q7 c
        have hse : (y5 c == ([] : Str)) = false := by
          cases hs : y5 c with
          | nil => rw [hs] at hsl; simp at hsl
          | cons a r => rfl
        unfold B2 at hP
        by_cases q2 : (y5 c).isPrefixOf k = true
        · rw [if_pos q2] at hP
          obtain ⟨g1, g2⟩ := prefix_take.1 q2
          have g1i : ¬ ((y5 c).length : Int) > (k.length : Int) := by omega
          have g2b : (List.take (y5 c).length k == y5 c) = true := by simpa using g2
          have sI := IH (k.drop (y5 c).length) (by simp; omega) (by simp; omega)
          have hR1 := B3 n (k.drop (y5 c).length)
          have hs1 := fun o => B4 n (k.drop (y5 c).length) o
          have hyl : ∀ o, o ∈ u9 n (k.drop (y5 c).length) → o.length ≤ 1000 := fun o ho => by
            have h1 := (V5 o).1
            rw [(hs1 o ho).2] at h1
            simp at h1; omega
          generalize y5 c = sb at *
          generalize u9 n (k.drop sb.length) = R at *
          have hP0 : acc ++ ((R.drop 0).map (c :: ·) ++ j4 n k (t + 1)) = T := hP
          clear hP IH q q2 g2 e hs1
          repeat' (first | (refine Qr rfl ?_; try intro _ hK; try simp only [go_sem, *]) | (refine Qi rfl rfl rfl rfl ?_ ?_ <;> (intro hb; (try intro _ hK); have hc := hb; try simp only [go_sem] at hc; simp only [go_sem, *])) | refine Qh rfl ?_ | refine Qd rfl (by kernel_rfl) ?_ | (refine Qc rfl rfl ?_ ?_ <;> (intro hb; have hc := hb; try simp only [go_sem] at hc)) | refine q8 rfl ?_ | (refine Qb ?_ ?_; focus kernel_rfl) | (refine x6 (ss) ?_ ?_; (focus (simp only [go_sem, *]; done)); simp only [go_sem, *]) | (refine t8 (sI) ?_; simp only [go_sem, *]) | ((with_reducible apply And.intro); focus omega) | (refine q7 hK ?_; clear hK; simp only [go_sem, *]) | simp only [q6, z8, go_sem, *])
          all_goals try contradiction
          refine c0 rfl (R.length) (fun i (ac : List Str) => ac ++ ((R.drop i).map (c :: ·) ++ j4 n k (t + 1)) = T) 57 (fun i ac => [(7, iV i), (6, .own 1 1 0 R.length), (4, .raw (.int .u8 ((65 + t : Nat) : Int))), (3, .own 0 1 0 ac.length), (0, sV k)]) (fun i ac => [.row 1 (ac.map sV), .row 1 (R.map sV)]) [some 0, some 1] [] (acc) (by exact hP0) ?_; intro i ac hi hQ
          clear hP0
          by_cases hi2 : i < R.length
          · have hii : (i : Int) < (R.length : Int) := by omega
            have hwi : IntKind.i64.wrap ((i : Int) + 1) = ((i + 1 : Nat) : Int) := u5 (by omega)
            have hol := hyl _ (i3 hi2)
            rw [o6 hi2, List.map_cons] at hQ
            have hacl : ac.length ≤ 1 := by
              have := congrArg List.length hQ
              simp only [List.length_append, List.length_cons] at this
              omega
            have hQ2 : (ac ++ [c :: R.getD i default]) ++ ((R.drop (i + 1)).map (c :: ·) ++ j4 n k (t + 1)) = T := by rw [← hQ]; simp
            generalize hoe : R.getD i default = o at *
            clear hQ hyl
            repeat' (first | (refine Qr rfl ?_; try intro _ hK; try simp only [go_sem, *]) | (refine Qi rfl rfl rfl rfl ?_ ?_ <;> (intro hb; (try intro _ hK); have hc := hb; try simp only [go_sem] at hc; simp only [go_sem, *])) | refine Qh rfl ?_ | refine Qd rfl (by kernel_rfl) ?_ | (refine Qc rfl rfl ?_ ?_ <;> (intro hb; have hc := hb; try simp only [go_sem] at hc)) | refine q8 rfl ?_ | (refine Qb ?_ ?_; focus kernel_rfl) | ((with_reducible apply And.intro); focus omega) | (refine q7 hK ?_; clear hK; simp only [go_sem, *]) | simp only [q6, z8, go_sem, *])
            all_goals try contradiction
            exact r9 (i' := i + 1) [some 4, some 1] [] (ac ++ [c :: o]) (by exact hQ2)
          · have hii : ¬ (i : Int) < (R.length : Int) := by omega
            rw [j9 (by omega)] at hQ
            have hQ2 : ac ++ j4 n k (t + 1) = T := hQ
            clear hQ hyl
            repeat' (first | (refine Qr rfl ?_; try intro _ hK; try simp only [go_sem, *]) | (refine Qi rfl rfl rfl rfl ?_ ?_ <;> (intro hb; (try intro _ hK); have hc := hb; try simp only [go_sem] at hc; simp only [go_sem, *])) | refine Qh rfl ?_ | refine Qd rfl (by kernel_rfl) ?_ | (refine Qc rfl rfl ?_ ?_ <;> (intro hb; have hc := hb; try simp only [go_sem] at hc)) | refine q8 rfl ?_ | (refine Qb ?_ ?_; focus kernel_rfl) | ((with_reducible apply And.intro); focus omega) | (refine q7 hK ?_; clear hK; simp only [go_sem, *]) | simp only [q6, z8, go_sem, *])
            all_goals try contradiction
            exact r9 (i' := t + 1) [some 0] [] (ac) (by exact hQ2)
        · rw [if_neg q2] at hP
          have hP2 : acc ++ j4 n k (t + 1) = T := hP
          by_cases g1 : (y5 c).length ≤ k.length
          · have g1i : ¬ ((y5 c).length : Int) > (k.length : Int) := by omega
            have g2b : (List.take (y5 c).length k == y5 c) = false := by
              have : ¬ List.take (y5 c).length k = y5 c := fun e => q2 (prefix_take.2 ⟨g1, e⟩)
              simpa using this
            generalize y5 c = sb at *
            clear hP q2 IH e
            repeat' (first | (refine Qr rfl ?_; try intro _ hK; try simp only [go_sem, *]) | (refine Qi rfl rfl rfl rfl ?_ ?_ <;> (intro hb; (try intro _ hK); have hc := hb; try simp only [go_sem] at hc; simp only [go_sem, *])) | refine Qh rfl ?_ | refine Qd rfl (by kernel_rfl) ?_ | (refine Qc rfl rfl ?_ ?_ <;> (intro hb; have hc := hb; try simp only [go_sem] at hc)) | refine q8 rfl ?_ | (refine Qb ?_ ?_; focus kernel_rfl) | (refine x6 (ss) ?_ ?_; (focus (simp only [go_sem, *]; done)); simp only [go_sem, *]) | ((with_reducible apply And.intro); focus omega) | (refine q7 hK ?_; clear hK; simp only [go_sem, *]) | simp only [q6, z8, go_sem, *])
            all_goals try contradiction
            exact r9 (i' := t + 1) [some 0] [] (acc) (by exact hP2)
          · have g1i : ((y5 c).length : Int) > (k.length : Int) := by omega
            generalize y5 c = sb at *
            clear hP q2 IH e
            repeat' (first | (refine Qr rfl ?_; try intro _ hK; try simp only [go_sem, *]) | (refine Qi rfl rfl rfl rfl ?_ ?_ <;> (intro hb; (try intro _ hK); have hc := hb; try simp only [go_sem] at hc; simp only [go_sem, *])) | refine Qh rfl ?_ | refine Qd rfl (by kernel_rfl) ?_ | (refine Qc rfl rfl ?_ ?_ <;> (intro hb; have hc := hb; try simp only [go_sem] at hc)) | refine q8 rfl ?_ | (refine Qb ?_ ?_; focus kernel_rfl) | (refine x6 (ss) ?_ ?_; (focus (simp only [go_sem, *]; done)); simp only [go_sem, *]) | ((with_reducible apply And.intro); focus omega) | (refine q7 hK ?_; clear hK; simp only [go_sem, *]) | simp only [q6, z8, go_sem, *])
            all_goals try contradiction
            exact r9 (i' := t + 1) [some 0] [] (acc) (by exact hP2)
      · have e : r5 c = [] := by unfold r5; rw [if_neg q]
        rw [e] at ss
        rw [if_neg q] at hP
        have hP2 : acc ++ j4 n k (t + 1) = T := hP
        clear hP IH q e
        repeat' (first | (refine Qr rfl ?_; try intro _ hK; try simp only [go_sem, *]) | (refine Qi rfl rfl rfl rfl ?_ ?_ <;> (intro hb; (try intro _ hK); have hc := hb; try simp only [go_sem] at hc; simp only [go_sem, *])) | refine Qh rfl ?_ | refine Qd rfl (by kernel_rfl) ?_ | (refine Qc rfl rfl ?_ ?_ <;> (intro hb; have hc := hb; try simp only [go_sem] at hc)) | refine q8 rfl ?_ | (refine Qb ?_ ?_; focus kernel_rfl) | (refine x6 (ss) ?_ ?_; (focus (simp only [go_sem, *]; done)); simp only [go_sem, *]) | ((with_reducible apply And.intro); focus omega) | (refine q7 hK ?_; clear hK; simp only [go_sem, *]) | simp only [q6, z8, go_sem, *])
        all_goals try contradiction
        exact r9 (i' := t + 1) [some 0] [] (acc) (by exact hP2)
    · have e : j4 n k t = [] := by
        unfold j4 f6
        rw [show 26 - t = 0 by omega]; rfl
      rw [e, List.append_nil] at hP
      subst hP
      have hc1 : ¬ ((65 + t : Nat) : Int) ≤ 90 := by omega
      clear e IH
      repeat' (first | (refine Qr rfl ?_; try intro _ hK; try simp only [go_sem, *]) | (refine Qi rfl rfl rfl rfl ?_ ?_ <;> (intro hb; (try intro _ hK); have hc := hb; try simp only [go_sem] at hc; simp only [go_sem, *])) | refine Qh rfl ?_ | refine Qd rfl (by kernel_rfl) ?_ | (refine Qc rfl rfl ?_ ?_ <;> (intro hb; have hc := hb; try simp only [go_sem] at hc)) | refine q8 rfl ?_ | (refine Qb ?_ ?_; focus kernel_rfl) | ((with_reducible apply And.intro); focus omega) | (refine q7 hK ?_; clear hK; simp only [go_sem, *]) | simp only [q6, z8, go_sem, *])
      all_goals try contradiction
      refine ⟨[_], [some 0], [], ⟨rfl, trivial⟩, ?_⟩
      simp only [go_sem, *]
end Go.Abs

namespace Go.Abs
open Go Go.Proofs Tryz
structure Stop (p : Prop) : Prop where
 it : p
abbrev K3 (d : Dice) : Prop := d.list.length ≤ 4294967296
theorem B0 (d : Dice) (most : Int) (h : K3 d) (h1 : 1 ≤ most ∧ most ≤ 1000) : ∃ (s : Str) (d' : Dice), zLP prog 25 [.ptr 0 0, iV most] [p7 d] (sV s) [p7 d'] ∧ ValidN s ∧ K3 d' := by
 obtain ⟨a, b, c⟩ := zFS (d := d) h1.1
 exact ⟨_, _, zGk d most h h1, a, by unfold K3; rw [c]; exact h⟩
theorem zDi (l : List Int) (h : l.length ≤ 4294967296) : ∃ d : Dice, zLP prog 23 [X1 l] [] (.ptr 0 0) [p7 d] ∧ K3 d := ⟨_, zGl l, h⟩
end Go.Abs

namespace Go.Abs
open Go Go.Proofs Tryz
attribute [local irreducible] y3 Hold y8
end Go.Abs

namespace Go.Abs
open Go Go.Proofs Tryz
attribute [local irreducible] y3 Hold y8
theorem zHL (s : Str) (hl : s.length ≤ 4294967296) : zLP prog 43 [sV s] [] (.tup [sV (R5 s), iV (R4 s)]) [] := by
 have s1 := zAA s hl
 unfold R5 R4
 by_cases q : y9 s = 0
 ·have v := checkN_zero.1 q
  have hkl := (V5 s).2
  have hl6 := v.len
  have s2 := zCQ s v
  have s3 := zCS (zLO s).length (zLO s) (Nat.le_refl _) (by omega)
  have hh := zBu (zLO s).length (zLO s)
  have h1 := B3 (zLO s).length (zLO s)
  rw [if_pos q, if_pos q]
  rw [q] at s1
  have e : J1 (zLO s) = (u9 (zLO s).length (zLO s)).head? := hh.symm
  rw [e]
  generalize u9 (zLO s).length (zLO s) = L at *
  generalize zLO s = k at *
  clear q v e hkl hh
  cases L with
  | nil =>
   have e1 : (([] : List Str).head?).isSome = false := rfl
   have e2 : (([] : List Str).head?).getD [] = [] := rfl
   rw [e1, e2, if_neg (by decide)]
   refine q9 func43 rfl (fun E hE => ?_); simp only [go_sem, ntmps43]
   repeat' (first | (refine Qr rfl ?_; try intro _ hK; try simp only [go_sem, *]) | refine Qh rfl ?_ | (refine Qc rfl rfl ?_ ?_ <;> (intro hb; have hc := hb; try simp only [go_sem] at hc)) | refine q8 rfl ?_ | ((first | refine y2 (s1) ?_ | refine y2 (s2) ?_); simp only [go_sem, *]) | (refine t8 (s3) ?_; simp only [go_sem, *]) | ((with_reducible apply And.intro); focus omega) | (refine q7 hK ?_; clear hK; simp only [go_sem, *]) | simp only [q6, z8, go_sem, *])
   all_goals try contradiction
   (refine ⟨[_, _], [], [], ⟨rfl, rfl, trivial⟩, ?_⟩; simp only [go_sem, *])
  | cons y r =>
   have hr : r = [] := by
    cases r with
    | nil => rfl
    | cons a b => simp at h1
   subst hr
   have e1 : (([y] : List Str).head?).isSome = true := rfl
   have e2 : (([y] : List Str).head?).getD [] = y := rfl
   rw [e1, e2, if_pos rfl]
   refine q9 func43 rfl (fun E hE => ?_); simp only [go_sem, ntmps43]
   repeat' (first | (refine Qr rfl ?_; try intro _ hK; try simp only [go_sem, *]) | refine Qh rfl ?_ | (refine Qc rfl rfl ?_ ?_ <;> (intro hb; have hc := hb; try simp only [go_sem] at hc)) | refine q8 rfl ?_ | ((first | refine y2 (s1) ?_ | refine y2 (s2) ?_); simp only [go_sem, *]) | (refine t8 (s3) ?_; simp only [go_sem, *]) | ((with_reducible apply And.intro); focus omega) | (refine q7 hK ?_; clear hK; simp only [go_sem, *]) | simp only [q6, z8, go_sem, *])
   all_goals try contradiction
   (refine ⟨[_, _], [], [], ⟨rfl, rfl, trivial⟩, ?_⟩; simp only [go_sem, *])
 ·rw [if_neg q, if_neg q]
  generalize y9 s = e at *
  refine q9 func43 rfl (fun E hE => ?_); simp only [go_sem, ntmps43]
  repeat' (first | (refine Qr rfl ?_; try intro _ hK; try simp only [go_sem, *]) | refine Qh rfl ?_ | (refine Qc rfl rfl ?_ ?_ <;> (intro hb; have hc := hb; try simp only [go_sem] at hc)) | refine q8 rfl ?_ | (refine y2 (s1) ?_; simp only [go_sem, *]) | ((with_reducible apply And.intro); focus omega) | (refine q7 hK ?_; clear hK; simp only [go_sem, *]) | simp only [q6, z8, go_sem, *])
  all_goals try contradiction
  (refine ⟨[_, _], [], [], ⟨rfl, rfl, trivial⟩, ?_⟩; simp only [go_sem, *])
def zL3 (s : Str) : Bool := decide (20 < s.length)
def J7 (l : List Str) : Bool := l.any zL3 || decide (20 < l.length)
theorem zHD (l : List Str) (hl : l.length ≤ 4294967296) : zLP prog 21 [.raw (.slice none 0 0), y6 l] [] (bV (J7 l)) [] := by
 obtain ⟨R, hR⟩ : ∃ R, l.any zL3 = R := ⟨_, rfl⟩
 have e : J7 l = (R || decide (20 < l.length)) := by unfold J7; rw [hR]
 rw [e]
 have h0 : (l.drop 0).any zL3 = R := hR
 clear hR e
 refine q9 func21 rfl (fun E hE => ?_); simp only [go_sem, ntmps21]
 repeat' (first | (refine Qr rfl ?_; try intro _ hK; try simp only [go_sem, *]) | (refine Qi rfl rfl rfl rfl ?_ ?_ <;> (intro hb; (try intro _ hK); have hc := hb; try simp only [go_sem] at hc; simp only [go_sem, *])) | refine Qh rfl ?_ | refine Qd rfl (by kernel_rfl) ?_ | (refine Qc rfl rfl ?_ ?_ <;> (intro hb; have hc := hb; try simp only [go_sem] at hc)) | refine q8 rfl ?_ | (refine Qb ?_ ?_; focus kernel_rfl) | ((with_reducible apply And.intro); focus omega) | (refine q7 hK ?_; clear hK; simp only [go_sem, *]) | simp only [q6, z8, go_sem, *])
 refine r8 rfl (l.length) (fun i => (l.drop i).any zL3 = R) 47 (fun i => [(5, iV i), (0, .raw (.slice none 0 0)), (1, y6 l)]) (fun i => []) [] [] (by exact h0) ?_; intro i hi hP
 clear h0
 by_cases hi2 : i < l.length
 ·have hii : (i : Int) < (l.length : Int) := by omega
  have hwi : IntKind.i64.wrap ((i : Int) + 1) = ((i + 1 : Nat) : Int) := u5 (by omega)
  rw [o6 hi2, List.any_cons] at hP
  generalize hxe : l.getD i default = x at *
  by_cases q : 20 < x.length
  ·have e1 : zL3 x = true := decide_eq_true q
   rw [e1] at hP
   have hP : true = R := hP
   subst hP
   have qi : (x.length : Int) > 20 := by omega
   clear e1
   repeat' (first | (refine Qr rfl ?_; try intro _ hK; try simp only [go_sem, *]) | (refine Qi rfl rfl rfl rfl ?_ ?_ <;> (intro hb; (try intro _ hK); have hc := hb; try simp only [go_sem] at hc; simp only [go_sem, *])) | refine Qh rfl ?_ | refine Qd rfl (by kernel_rfl) ?_ | (refine Qc rfl rfl ?_ ?_ <;> (intro hb; have hc := hb; try simp only [go_sem] at hc)) | refine q8 rfl ?_ | (refine Qb ?_ ?_; focus kernel_rfl) | ((with_reducible apply And.intro); focus omega) | (refine q7 hK ?_; clear hK; simp only [go_sem, *]) | simp only [q6, z8, go_sem, *])
   all_goals first | contradiction | omega | skip
   (refine ⟨[_], [], [], ⟨rfl, trivial⟩, ?_⟩; simp only [go_sem, *])
  ·have e1 : zL3 x = false := decide_eq_false q
   rw [e1] at hP
   have hP : (l.drop (i + 1)).any zL3 = R := hP
   have qi : ¬ (x.length : Int) > 20 := by omega
   clear e1
   repeat' (first | (refine Qr rfl ?_; try intro _ hK; try simp only [go_sem, *]) | (refine Qi rfl rfl rfl rfl ?_ ?_ <;> (intro hb; (try intro _ hK); have hc := hb; try simp only [go_sem] at hc; simp only [go_sem, *])) | refine Qh rfl ?_ | refine Qd rfl (by kernel_rfl) ?_ | (refine Qc rfl rfl ?_ ?_ <;> (intro hb; have hc := hb; try simp only [go_sem] at hc)) | refine q8 rfl ?_ | (refine Qb ?_ ?_; focus kernel_rfl) | ((with_reducible apply And.intro); focus omega) | (refine q7 hK ?_; clear hK; simp only [go_sem, *]) | simp only [q6, z8, go_sem, *])
   all_goals first | contradiction | omega | skip
   exact n0 (i' := i + 1) [] [] (by exact hP)
 ·have hii : ¬ (i : Int) < (l.length : Int) := by omega
  rw [j9 (by omega)] at hP
  have hP : false = R := hP
  subst hP
  repeat' (first | (refine Qr rfl ?_; try intro _ hK; try simp only [go_sem, *]) | (refine Qi rfl rfl rfl rfl ?_ ?_ <;> (intro hb; (try intro _ hK); have hc := hb; try simp only [go_sem] at hc; simp only [go_sem, *])) | refine Qh rfl ?_ | refine Qd rfl (by kernel_rfl) ?_ | (refine Qc rfl rfl ?_ ?_ <;> (intro hb; have hc := hb; try simp only [go_sem] at hc)) | refine q8 rfl ?_ | (refine Qb ?_ ?_; focus kernel_rfl) | ((with_reducible apply And.intro); focus omega) | (refine q7 hK ?_; clear hK; simp only [go_sem, *]) | simp only [q6, z8, go_sem, *])
  all_goals first | contradiction | omega | skip
  refine r8 rfl (1) (fun j => NoQ j) 47 (fun j => [(6, iV 0), (0, .raw (.slice none 0 0)), (1, y6 l)]) (fun j => []) [] [] (by trivial) ?_; intro j hj hQ
  by_cases q : 20 < l.length
  ·have qi : (l.length : Int) > 20 := by omega
   repeat' (first | (refine Qr rfl ?_; try intro _ hK; try simp only [go_sem, *]) | (refine Qi rfl rfl rfl rfl ?_ ?_ <;> (intro hb; (try intro _ hK); have hc := hb; try simp only [go_sem] at hc; simp only [go_sem, *])) | refine Qh rfl ?_ | refine Qd rfl (by kernel_rfl) ?_ | (refine Qc rfl rfl ?_ ?_ <;> (intro hb; have hc := hb; try simp only [go_sem] at hc)) | refine q8 rfl ?_ | (refine Qb ?_ ?_; focus kernel_rfl) | ((with_reducible apply And.intro); focus omega) | (refine q7 hK ?_; clear hK; simp only [go_sem, *]) | simp only [q6, z8, go_sem, *])
   all_goals first | contradiction | omega | skip
   (refine ⟨[_], [], [], ⟨rfl, trivial⟩, ?_⟩; simp only [go_sem, *])
  ·have qi : ¬ (l.length : Int) > 20 := by omega
   repeat' (first | (refine Qr rfl ?_; try intro _ hK; try simp only [go_sem, *]) | (refine Qi rfl rfl rfl rfl ?_ ?_ <;> (intro hb; (try intro _ hK); have hc := hb; try simp only [go_sem] at hc; simp only [go_sem, *])) | refine Qh rfl ?_ | refine Qd rfl (by kernel_rfl) ?_ | (refine Qc rfl rfl ?_ ?_ <;> (intro hb; have hc := hb; try simp only [go_sem] at hc)) | refine q8 rfl ?_ | (refine Qb ?_ ?_; focus kernel_rfl) | ((with_reducible apply And.intro); focus omega) | (refine q7 hK ?_; clear hK; simp only [go_sem, *]) | simp only [q6, z8, go_sem, *])
   all_goals first | contradiction | omega | skip
   (refine ⟨[_], [], [], ⟨rfl, trivial⟩, ?_⟩; simp only [go_sem, *])
end Go.Abs

namespace Go.Abs
open Go Go.Proofs Tryz
attribute [local irreducible] y3 Hold y8
theorem zLC (s : Str) (nums : List Int) (hs : s.length ≤ 1048576) (h : nums.length ≤ 4294967296) : zLP prog 8 [sV s, X1 nums] [] (bV true) [] := by
 obtain ⟨d0, s0, hd0⟩ := zDi nums h
 obtain ⟨w1, d1, s1, v1, hd1⟩ := B0 d0 6 hd0 (by omega)
 obtain ⟨w2, d2, s2, v2, hd2⟩ := B0 d1 3 hd1 (by omega)
 obtain ⟨w3, d3, s3, v3, hd3⟩ := B0 d2 6 hd2 (by omega)
 have sS := zHT
 have sL := zHD [s] (by simp)
 have hv1 := v1.len
 have hv2 := v2.len
 have hv3 := v3.len
 have hlen : ∀ x, x ∈ [s, w1, w2, w3 ++ s] → x.length ≤ 4294967296 := by
  intro x hx
  simp only [List.mem_cons, List.not_mem_nil, or_false] at hx
  rcases hx with rfl | rfl | rfl | rfl
  ·omega
  ·omega
  ·omega
  ·simp only [List.length_append]; omega
 have hcat : w3.length + s.length ≤ 9223372036854775807 := by omega
 clear v1 v2 v3 hd0 hd1 hd2 hd3 h hv1 hv2 hv3
 generalize J7 [s] = b at *
 refine q9 func8 rfl (fun E hE => ?_); simp only [go_sem, ntmps8]
 cases b with
 | true =>
  repeat' (first | (refine Qr rfl ?_; try intro _ hK; try simp only [go_sem, *]) | (refine Qi rfl rfl rfl rfl ?_ ?_ <;> (intro hb; (try intro _ hK); have hc := hb; try simp only [go_sem] at hc; simp only [go_sem, *])) | refine Qh rfl ?_ | refine Qd rfl (by kernel_rfl) ?_ | (refine Qc rfl rfl ?_ ?_ <;> (intro hb; have hc := hb; try simp only [go_sem] at hc)) | refine q8 rfl ?_ | (refine Qb ?_ ?_; focus kernel_rfl) | ((with_reducible apply And.intro); focus omega) | (refine q7 hK ?_; clear hK; simp only [go_sem, *]) | simp only [q6, z8, go_sem, *])
  (refine Y7 [0] (sL) (by simp only [go_sem, *]) (.raw _) ?_; simp only [go_sem, *])
  repeat' (first | (refine Qr rfl ?_; try intro _ hK; try simp only [go_sem, *]) | (refine Qi rfl rfl rfl rfl ?_ ?_ <;> (intro hb; (try intro _ hK); have hc := hb; try simp only [go_sem] at hc; simp only [go_sem, *])) | refine Qh rfl ?_ | refine Qd rfl (by kernel_rfl) ?_ | (refine Qc rfl rfl ?_ ?_ <;> (intro hb; have hc := hb; try simp only [go_sem] at hc)) | refine q8 rfl ?_ | (refine Qb ?_ ?_; focus kernel_rfl) | (refine t8 (sS) ?_; simp only [go_sem, *]) | ((with_reducible apply And.intro); focus omega) | (refine q7 hK ?_; clear hK; simp only [go_sem, *]) | simp only [q6, z8, go_sem, *])
  all_goals try contradiction
  (refine ⟨[_], [], [], ⟨rfl, trivial⟩, ?_⟩; simp only [go_sem, *])
 | false =>
  repeat' (first | (refine Qr rfl ?_; try intro _ hK; try simp only [go_sem, *]) | (refine Qi rfl rfl rfl rfl ?_ ?_ <;> (intro hb; (try intro _ hK); have hc := hb; try simp only [go_sem] at hc; simp only [go_sem, *])) | refine Qh rfl ?_ | refine Qd rfl (by kernel_rfl) ?_ | (refine Qc rfl rfl ?_ ?_ <;> (intro hb; have hc := hb; try simp only [go_sem] at hc)) | refine q8 rfl ?_ | (refine Qb ?_ ?_; focus kernel_rfl) | ((with_reducible apply And.intro); focus omega) | (refine q7 hK ?_; clear hK; simp only [go_sem, *]) | simp only [q6, z8, go_sem, *])
  (refine Y7 [0] (sL) (by simp only [go_sem, *]) (.raw _) ?_; simp only [go_sem, *])
  repeat' (first | (refine Qr rfl ?_; try intro _ hK; try simp only [go_sem, *]) | (refine Qi rfl rfl rfl rfl ?_ ?_ <;> (intro hb; (try intro _ hK); have hc := hb; try simp only [go_sem] at hc; simp only [go_sem, *])) | refine Qh rfl ?_ | refine Qd rfl (by kernel_rfl) ?_ | (refine Qc rfl rfl ?_ ?_ <;> (intro hb; have hc := hb; try simp only [go_sem] at hc)) | refine q8 rfl ?_ | (refine Qb ?_ ?_; focus kernel_rfl) | (refine t8 (s0) ?_; simp only [go_sem, *]) | ((with_reducible apply And.intro); focus omega) | (refine q7 hK ?_; clear hK; simp only [go_sem, *]) | simp only [q6, z8, go_sem, *])
  refine w8 [1] s1 ?_
  simp only [go_sem, *]
  repeat' (first | (refine Qr rfl ?_; try intro _ hK; try simp only [go_sem, *]) | (refine Qi rfl rfl rfl rfl ?_ ?_ <;> (intro hb; (try intro _ hK); have hc := hb; try simp only [go_sem] at hc; simp only [go_sem, *])) | refine Qh rfl ?_ | refine Qd rfl (by kernel_rfl) ?_ | (refine Qc rfl rfl ?_ ?_ <;> (intro hb; have hc := hb; try simp only [go_sem] at hc)) | refine q8 rfl ?_ | (refine Qb ?_ ?_; focus kernel_rfl) | ((with_reducible apply And.intro); focus omega) | (refine q7 hK ?_; clear hK; simp only [go_sem, *]) | simp only [q6, z8, go_sem, *])
  refine w8 [1] s2 ?_
  simp only [go_sem, *]
  repeat' (first | (refine Qr rfl ?_; try intro _ hK; try simp only [go_sem, *]) | (refine Qi rfl rfl rfl rfl ?_ ?_ <;> (intro hb; (try intro _ hK); have hc := hb; try simp only [go_sem] at hc; simp only [go_sem, *])) | refine Qh rfl ?_ | refine Qd rfl (by kernel_rfl) ?_ | (refine Qc rfl rfl ?_ ?_ <;> (intro hb; have hc := hb; try simp only [go_sem] at hc)) | refine q8 rfl ?_ | (refine Qb ?_ ?_; focus kernel_rfl) | ((with_reducible apply And.intro); focus omega) | (refine q7 hK ?_; clear hK; simp only [go_sem, *]) | simp only [q6, z8, go_sem, *])
  refine w8 [1] s3 ?_
  simp only [go_sem, *]
  repeat' (first | (refine Qr rfl ?_; try intro _ hK; try simp only [go_sem, *]) | (refine Qi rfl rfl rfl rfl ?_ ?_ <;> (intro hb; (try intro _ hK); have hc := hb; try simp only [go_sem] at hc; simp only [go_sem, *])) | refine Qh rfl ?_ | refine Qd rfl (by kernel_rfl) ?_ | (refine Qc rfl rfl ?_ ?_ <;> (intro hb; have hc := hb; try simp only [go_sem] at hc)) | refine q8 rfl ?_ | (refine Qb ?_ ?_; focus kernel_rfl) | ((with_reducible apply And.intro); focus omega) | (refine q7 hK ?_; clear hK; simp only [go_sem, *]) | simp only [q6, z8, go_sem, *])
  repeat' (first | (refine Qr rfl ?_; try intro _ hK; try simp only [go_sem, *]) | (refine Qi rfl rfl rfl rfl ?_ ?_ <;> (intro hb; (try intro _ hK); have hc := hb; try simp only [go_sem] at hc; simp only [go_sem, *])) | refine Qh rfl ?_ | refine Qd rfl (by kernel_rfl) ?_ | (refine Qc rfl rfl ?_ ?_ <;> (intro hb; have hc := hb; try simp only [go_sem] at hc)) | refine q8 rfl ?_ | (refine Qb ?_ ?_; focus kernel_rfl) | ((with_reducible apply And.intro); focus omega) | (refine q7 hK ?_; clear hK; simp only [go_sem, *]) | simp only [q6, z8, go_sem, *])
  refine X6 (N := 102) (env := [(7, iV 0), (6, y6 [s, w1, w2, w3 ++ s])]) (As := []) [] [2] (by (simp only [Weak, go_sem, List.map_append, List.map_set, *] <;> (try simp (disch := omega) only [u5]) <;> (try simp) <;> (try omega))) ?_
  clear s0 s1 s2 s3 sL hcat
  generalize hle : [s, w1, w2, w3 ++ s] = l at *
  have hl4 : l.length ≤ 4 := by rw [← hle]; simp
  clear hle
  refine r8 rfl (l.length) (fun i => NoQ i) 102 (fun i => [(7, iV i), (6, y6 l)]) (fun i => []) [] [] (by trivial) ?_; intro i hi hP
  by_cases hi2 : i < l.length
  ·have hxi := hlen _ (i3 hi2)
   have hii : (i : Int) < (l.length : Int) := by omega
   have hwi : IntKind.i64.wrap ((i : Int) + 1) = ((i + 1 : Nat) : Int) := u5 (by omega)
   generalize hxe : l.getD i default = x at *
   have k1 := zCG x
   have k2 := zHJ x hxi
   have k3 := zGn x
   have k4 := zHL x hxi
   have k5 := G1 x
   have k6 := zAA x hxi
   have hs1 : ∀ z : Str, (!(z == z)) = false := fun z => by simp
   have hn1 : ∀ z : Int, (z != z) = false := fun z => by simp
   have b1 := hs1 (if y9 x = 0 then zLO x else [])
   have b2 := hn1 (y9 x)
   have b3 := hs1 (R5 x)
   have b4 := hn1 (R4 x)
   clear hs1 hn1 hlen
   generalize (if y9 x = 0 then zLO x else []) = ky at *
   generalize y9 x = ce at *
   generalize R5 x = ot at *
   generalize R4 x = oe at *
   repeat' (first | (refine Qr rfl ?_; try intro _ hK; try simp only [go_sem, *]) | (refine Qi rfl rfl rfl rfl ?_ ?_ <;> (intro hb; (try intro _ hK); have hc := hb; try simp only [go_sem] at hc; simp only [go_sem, *])) | refine Qh rfl ?_ | refine Qd rfl (by kernel_rfl) ?_ | (refine Qc rfl rfl ?_ ?_ <;> (intro hb; have hc := hb; try simp only [go_sem] at hc)) | refine q8 rfl ?_ | (refine Qb ?_ ?_; focus kernel_rfl) | ((first | refine y2 (k5) ?_ | refine y2 (k6) ?_); simp only [go_sem, *]) | (refine x6 (k1) ?_ ?_; (focus (simp only [go_sem, *]; done)); simp only [go_sem, *]) | (refine x6 (k2) ?_ ?_; (focus (simp only [go_sem, *]; done)); simp only [go_sem, *]) | (refine x6 (k3) ?_ ?_; (focus (simp only [go_sem, *]; done)); simp only [go_sem, *]) | (refine x6 (k4) ?_ ?_; (focus (simp only [go_sem, *]; done)); simp only [go_sem, *]) | ((with_reducible apply And.intro); focus omega) | (refine q7 hK ?_; clear hK; simp only [go_sem, *]) | simp only [q6, z8, go_sem, *])
   all_goals first | contradiction | omega | skip
   exact n0 (i' := i + 1) [] [] (by trivial)
  ·have hii : ¬ (i : Int) < (l.length : Int) := by omega
   repeat' (first | (refine Qr rfl ?_; try intro _ hK; try simp only [go_sem, *]) | (refine Qi rfl rfl rfl rfl ?_ ?_ <;> (intro hb; (try intro _ hK); have hc := hb; try simp only [go_sem] at hc; simp only [go_sem, *])) | refine Qh rfl ?_ | refine Qd rfl (by kernel_rfl) ?_ | (refine Qc rfl rfl ?_ ?_ <;> (intro hb; have hc := hb; try simp only [go_sem] at hc)) | refine q8 rfl ?_ | (refine Qb ?_ ?_; focus kernel_rfl) | (refine t8 (sS) ?_; simp only [go_sem, *]) | ((with_reducible apply And.intro); focus omega) | (refine q7 hK ?_; clear hK; simp only [go_sem, *]) | simp only [q6, z8, go_sem, *])
   all_goals first | contradiction | omega | skip
   (refine ⟨[_], [], [], ⟨rfl, trivial⟩, ?_⟩; simp only [go_sem, *])
end Go.Abs

