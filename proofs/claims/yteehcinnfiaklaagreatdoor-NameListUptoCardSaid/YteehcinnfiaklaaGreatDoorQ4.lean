/-
  WHAT THE PROOF STANDS ON, PART 4: contracts of the program's functions and the logic that they are proved in. No condition.
-/
import Derived.Test.YteehcinnfiaklaaGreatDoorQ3
set_option maxRecDepth 100000
set_option maxHeartbeats 4000000
set_option linter.unusedVariables false
set_option linter.unusedSimpArgs false
set_option linter.unusedSectionVars false
namespace Go.Abs
open Go Go.Proofs Tryz
attribute [local irreducible] q9 Hold y3
abbrev zAG (now : Str) (i : Nat) : List AV := [sV now, iV i, .ptr 0 0, .ptr 1 0, .ptr 2 0]
abbrev Y4 (k : Str) (m : List Str) : List AObj := [.box [sV k], .box [.mp 3], .box [.fn 140 [.ptr 0 0, .ptr 1 0, .ptr 2 0]], .mapo (m.map zKz) (m.map fun _ => bV true)]
def SmallL (m : List Str) : Prop := ∀ x, x ∈ m → x.length ≤ 1000
theorem SmallL.met {k now : Str} {m : List Str} (h : SmallL m) (hn : now.length ≤ 1000) : SmallL (zK8 k m now) := fun x hx => by
 rcases mem_metC.1 hx with hx | ⟨rfl, _⟩
 ·exact h x hx
 ·exact hn
theorem SmallL.go {k now : Str} {m : List Str} {n i : Nat} (h : SmallL m) (hk : k.length ≤ 1000) (hi : k.length - i ≤ n) : SmallL (goC k n m now i) := fun x hx => by
 rcases (D3 hi).1 hx with hx | ⟨t, _, _, hl⟩
 ·exact h x hx
 ·omega
theorem zB1 (k : Str) (hk : k.length ≤ 1000) : ∀ (n : Nat) (m : List Str) (now : Str) (i : Nat), k.length - i ≤ n → now.length ≤ i → i ≤ k.length → SmallL m →
  zKq prog 140 (zAG now i) (Y4 k m) (.tup []) (Y4 k (goC k n m now i))
 | 0, m, now, i, hn, h1, h2, hs => by
  have hi : i = k.length := by omega
  subst hi
  have e : goC k 0 m now k.length = zK8 k m now := rfl
  rw [e]
  clear e
  unfold zK8
  by_cases q : now.length < k.length
  ·rw [if_pos q]
   have qi : (now.length : Int) < (k.length : Int) := by omega
   refine q7 func140 rfl (fun E hE => ?_); simp only [go_sem, ntmps140]
   repeat' (first | (refine Qr rfl ?_; try intro _ hK; try simp only [go_sem, *]) | refine Qh rfl ?_ | refine Qd rfl (by kernel_rfl) ?_ | (refine Qc rfl rfl ?_ ?_ <;> (intro hb; have hc := hb; try simp only [go_sem] at hc)) | refine q6 rfl ?_ | (refine Qb ?_ ?_; focus kernel_rfl) | ((with_reducible apply And.intro); focus omega) | (refine z8 hK ?_; clear hK; simp only [go_sem, *]) | simp only [z7, z6, go_sem, *])
   all_goals first | contradiction | omega | skip
   refine B4 hs (by omega) (by simp only [go_sem]) ?_
   repeat' (first | (refine Qr rfl ?_; try intro _ hK; try simp only [go_sem, *]) | refine Qh rfl ?_ | refine Qd rfl (by kernel_rfl) ?_ | (refine Qc rfl rfl ?_ ?_ <;> (intro hb; have hc := hb; try simp only [go_sem] at hc)) | refine q6 rfl ?_ | (refine Qb ?_ ?_; focus kernel_rfl) | ((with_reducible apply And.intro); focus omega) | (refine z8 hK ?_; clear hK; simp only [go_sem, *]) | simp only [z7, z6, go_sem, *])
   refine o6 rfl (1) (fun t => NoQ t) 33 (fun t => [(7, iV k.length), (0, sV now), (2, .ptr 0 0), (3, .ptr 1 0), (4, .ptr 2 0)]) (fun t => Y4 k (zLC m now)) [some 0, some 1, some 2, some 3] [] (by trivial) ?_; intro t ht hP
   repeat' (first | (refine Qr rfl ?_; try intro _ hK; try simp only [go_sem, *]) | refine Qh rfl ?_ | refine Qd rfl (by kernel_rfl) ?_ | (refine Qc rfl rfl ?_ ?_ <;> (intro hb; have hc := hb; try simp only [go_sem] at hc)) | refine q6 rfl ?_ | (refine Qb ?_ ?_; focus kernel_rfl) | ((with_reducible apply And.intro); focus omega) | (refine z8 hK ?_; clear hK; simp only [go_sem, *]) | simp only [z7, z6, go_sem, *])
   all_goals first | contradiction | omega | skip
   refine ⟨[], [some 0, some 1, some 2, some 3], [], trivial, ?_⟩
   simp only [go_sem, l5, *]
  ·rw [if_neg q]
   have qi : ¬ (now.length : Int) < (k.length : Int) := by omega
   refine q7 func140 rfl (fun E hE => ?_); simp only [go_sem, ntmps140]
   repeat' (first | (refine Qr rfl ?_; try intro _ hK; try simp only [go_sem, *]) | refine Qh rfl ?_ | refine Qd rfl (by kernel_rfl) ?_ | (refine Qc rfl rfl ?_ ?_ <;> (intro hb; have hc := hb; try simp only [go_sem] at hc)) | refine q6 rfl ?_ | (refine Qb ?_ ?_; focus kernel_rfl) | ((with_reducible apply And.intro); focus omega) | (refine z8 hK ?_; clear hK; simp only [go_sem, *]) | simp only [z7, z6, go_sem, *])
   all_goals first | contradiction | omega | skip
   refine o6 rfl (1) (fun t => NoQ t) 33 (fun t => [(7, iV k.length), (0, sV now), (2, .ptr 0 0), (3, .ptr 1 0), (4, .ptr 2 0)]) (fun t => Y4 k m) [some 0, some 1, some 2, some 3] [] (by trivial) ?_; intro t ht hP
   repeat' (first | (refine Qr rfl ?_; try intro _ hK; try simp only [go_sem, *]) | refine Qh rfl ?_ | refine Qd rfl (by kernel_rfl) ?_ | (refine Qc rfl rfl ?_ ?_ <;> (intro hb; have hc := hb; try simp only [go_sem] at hc)) | refine q6 rfl ?_ | (refine Qb ?_ ?_; focus kernel_rfl) | ((with_reducible apply And.intro); focus omega) | (refine z8 hK ?_; clear hK; simp only [go_sem, *]) | simp only [z7, z6, go_sem, *])
   all_goals first | contradiction | omega | skip
   refine ⟨[], [some 0, some 1, some 2, some 3], [], trivial, ?_⟩
   simp only [go_sem, l5, *]
 | n + 1, m, now, i, hn, h1, h2, hs => by
  have hca : u0 prog 140 = true := by kernel_rfl
  have IH := zB1 k hk n
  rw [F6]
  have hs2 : SmallL (zK8 k m now) := hs.met (by omega)
  obtain ⟨T, hT⟩ : ∃ T, d7 k n (zK8 k m now) now (i + 0) = T := ⟨_, rfl⟩
  have hT0 : d7 k n (zK8 k m now) now i = T := hT
  rw [hT0]
  clear hT0
  unfold zK8 at hT hs2
  by_cases q : now.length < k.length
  ·rw [if_pos q] at hT hs2
   have qi : (now.length : Int) < (k.length : Int) := by omega
   refine q7 func140 rfl (fun E hE => ?_); simp only [go_sem, ntmps140]
   repeat' (first | (refine Qr rfl ?_; try intro _ hK; try simp only [go_sem, *]) | refine Qh rfl ?_ | refine Qd rfl (by kernel_rfl) ?_ | (refine Qc rfl rfl ?_ ?_ <;> (intro hb; have hc := hb; try simp only [go_sem] at hc)) | refine q6 rfl ?_ | (refine Qb ?_ ?_; focus kernel_rfl) | ((with_reducible apply And.intro); focus omega) | (refine z8 hK ?_; clear hK; simp only [go_sem, *]) | simp only [z7, z6, go_sem, *])
   all_goals first | contradiction | omega | skip
   refine B4 hs (by omega) (by simp only [go_sem]) ?_
   repeat' (first | (refine Qr rfl ?_; try intro _ hK; try simp only [go_sem, *]) | refine Qh rfl ?_ | refine Qd rfl (by kernel_rfl) ?_ | (refine Qc rfl rfl ?_ ?_ <;> (intro hb; have hc := hb; try simp only [go_sem] at hc)) | refine q6 rfl ?_ | (refine Qb ?_ ?_; focus kernel_rfl) | ((with_reducible apply And.intro); focus omega) | (refine z8 hK ?_; clear hK; simp only [go_sem, *]) | simp only [z7, z6, go_sem, *])
   refine b7 rfl (k.length - i) (fun t (z : List Str) => d7 k n z now (i + t) = T ∧ SmallL z) 33 (fun t z => [(7, iV ((i + t : Nat) : Int)), (0, sV now), (2, .ptr 0 0), (3, .ptr 1 0), (4, .ptr 2 0)]) (fun t z => Y4 k z) [some 0, some 1, some 2, some 3] [] (zLC m now) (by exact ⟨hT, hs2⟩) ?_; intro t z ht hP
   clear hT hs2 hs
   obtain ⟨hP, hz⟩ := hP
   generalize hjj : i + t = j at *
   by_cases hj : j < k.length
   ·rw [F5 hj] at hP
    have sI := IH z (now ++ [k.getD j 0]) (j + 1) (by omega) (by simp; omega) (by omega) hz
    have hz2 : SmallL (goC k n z (now ++ [k.getD j 0]) (j + 1)) := hz.go hk (by omega)
    have hdt := G3 hj
    have hji : (j : Int) < (k.length : Int) := by omega
    have hwj : IntKind.i64.wrap ((j : Int) + 1) = ((j + 1 : Nat) : Int) := u9 (by omega)
    have hnx : i + (t + 1) = j + 1 := by omega
    generalize goC k n z (now ++ [k.getD j 0]) (j + 1) = z2 at *
    clear IH hz
    repeat' (first | (refine Qr rfl ?_; try intro _ hK; try simp only [go_sem, *]) | refine Qh rfl ?_ | refine Qd rfl (by kernel_rfl) ?_ | (refine Qc rfl rfl ?_ ?_ <;> (intro hb; have hc := hb; try simp only [go_sem] at hc)) | refine q6 rfl ?_ | (refine Qb ?_ ?_; focus kernel_rfl) | ((with_reducible apply And.intro); focus omega) | (refine z8 hK ?_; clear hK; simp only [go_sem, *]) | simp only [z7, z6, go_sem, *])
    refine x4 [0, 1, 2, 3] sI ?_
    simp only [go_sem, *]
    repeat' (first | (refine Qr rfl ?_; try intro _ hK; try simp only [go_sem, *]) | refine Qh rfl ?_ | refine Qd rfl (by kernel_rfl) ?_ | (refine Qc rfl rfl ?_ ?_ <;> (intro hb; have hc := hb; try simp only [go_sem] at hc)) | refine q6 rfl ?_ | (refine Qb ?_ ?_; focus kernel_rfl) | ((with_reducible apply And.intro); focus omega) | (refine z8 hK ?_; clear hK; simp only [go_sem, *]) | simp only [z7, z6, go_sem, *])
    all_goals first | contradiction | omega | skip
    exact o8 (i' := t + 1) [some 0, some 1, some 2, some 3] [] (z2) (by rw [hnx]; exact ⟨hP, hz2⟩)
   ·rw [K3 (by omega)] at hP
    subst hP
    have hji : ¬ (j : Int) < (k.length : Int) := by omega
    clear IH hz
    repeat' (first | (refine Qr rfl ?_; try intro _ hK; try simp only [go_sem, *]) | refine Qh rfl ?_ | refine Qd rfl (by kernel_rfl) ?_ | (refine Qc rfl rfl ?_ ?_ <;> (intro hb; have hc := hb; try simp only [go_sem] at hc)) | refine q6 rfl ?_ | (refine Qb ?_ ?_; focus kernel_rfl) | ((with_reducible apply And.intro); focus omega) | (refine z8 hK ?_; clear hK; simp only [go_sem, *]) | simp only [z7, z6, go_sem, *])
    all_goals first | contradiction | omega | skip
    refine ⟨[], [some 0, some 1, some 2, some 3], [], trivial, ?_⟩
    simp only [go_sem, l5, *]
  ·rw [if_neg q] at hT hs2
   have qi : ¬ (now.length : Int) < (k.length : Int) := by omega
   have hik : i = k.length := by omega
   rw [K3 (by omega)] at hT
   subst hT
   subst hik
   clear IH
   refine q7 func140 rfl (fun E hE => ?_); simp only [go_sem, ntmps140]
   repeat' (first | (refine Qr rfl ?_; try intro _ hK; try simp only [go_sem, *]) | refine Qh rfl ?_ | refine Qd rfl (by kernel_rfl) ?_ | (refine Qc rfl rfl ?_ ?_ <;> (intro hb; have hc := hb; try simp only [go_sem] at hc)) | refine q6 rfl ?_ | (refine Qb ?_ ?_; focus kernel_rfl) | ((with_reducible apply And.intro); focus omega) | (refine z8 hK ?_; clear hK; simp only [go_sem, *]) | simp only [z7, z6, go_sem, *])
   all_goals first | contradiction | omega | skip
   refine o6 rfl (1) (fun t => NoQ t) 33 (fun t => [(7, iV k.length), (0, sV now), (2, .ptr 0 0), (3, .ptr 1 0), (4, .ptr 2 0)]) (fun t => Y4 k m) [some 0, some 1, some 2, some 3] [] (by trivial) ?_; intro t ht hP
   repeat' (first | (refine Qr rfl ?_; try intro _ hK; try simp only [go_sem, *]) | refine Qh rfl ?_ | refine Qd rfl (by kernel_rfl) ?_ | (refine Qc rfl rfl ?_ ?_ <;> (intro hb; have hc := hb; try simp only [go_sem] at hc)) | refine q6 rfl ?_ | (refine Qb ?_ ?_; focus kernel_rfl) | ((with_reducible apply And.intro); focus omega) | (refine z8 hK ?_; clear hK; simp only [go_sem, *]) | simp only [z7, z6, go_sem, *])
   all_goals first | contradiction | omega | skip
   refine ⟨[], [some 0, some 1, some 2, some 3], [], trivial, ?_⟩
   simp only [go_sem, l5, *]
end Go.Abs

namespace Go.Abs
open Go Go.Proofs Tryz
attribute [local irreducible] q9 Hold y3
def Bc : Nat → Nat
 | 0 => 1
 | n + 1 => 1 + (n + 1) * Bc n
theorem zCV : ∀ n, n < 13 → Bc n ≤ 2000000000 := by decide
theorem zBM (k : Str) (m : List Str) (now : Str) : (zK8 k m now).length ≤ m.length + 1 := by
 unfold zK8 zLC
 split
 ·split
  ·omega
  ·simp
 ·omega
theorem zAg (k : Str) : ∀ (n : Nat) (m : List Str) (now : Str) (i : Nat), k.length - i ≤ n → (goC k n m now i).length ≤ m.length + Bc n
 | 0, m, now, i, _ => zBM k m now
 | n + 1, m, now, i, h => by
  have key : ∀ (c : Nat) (i : Nat) (m : List Str), k.length - i = c → c ≤ n + 1 → (d7 k n m now i).length ≤ m.length + c * Bc n := by
   intro c
   induction c with
   | zero => intro i m h1 _; rw [K3 (by omega)]; omega
   | succ c ih =>
    intro i m h1 h2
    rw [F5 (by omega)]
    have a := ih (i + 1) (goC k n m (now ++ [k.getD i 0]) (i + 1)) (by omega) (by omega)
    have b := zAg k n m (now ++ [k.getD i 0]) (i + 1) (by omega)
    have e : (c + 1) * Bc n = c * Bc n + Bc n := Nat.succ_mul _ _
    omega
  rw [F6]
  have a := key (k.length - i) i (zK8 k m now) rfl h
  have b := zBM k m now
  have d : (k.length - i) * Bc n ≤ (n + 1) * Bc n := Nat.mul_le_mul_right _ h
  have e : Bc (n + 1) = 1 + (n + 1) * Bc n := rfl
  omega
theorem zAJ {k : Str} (hk : k.length ≤ 12) (hk0 : 0 < k.length) : (Y5 k).length ≤ 2000000000 := by
 have a := zAg k k.length [] (k.take 1) 1 (by omega)
 have b := zCV k.length (by omega)
 have e : Y5 k = goC k k.length [] (k.take 1) 1 := rfl
 rw [e]; simp only [List.length_nil] at a; omega
theorem D0 {α β : Type} (f : α → β) : ∀ (l : List α) (i : Nat), (l.eraseIdx i).map f = (l.map f).eraseIdx i
 | [], _ => rfl
 | _ :: _, 0 => rfl
 | x :: r, i + 1 => by simp [D0 f r i]
theorem zAO {α : Type} : ∀ (l : List α) (i : Nat) (h : i < l.length), l.Perm (l[i] :: l.eraseIdx i)
 | x :: r, 0, _ => .refl _
 | x :: r, i + 1, h => by
  have := zAO r i (by simpa using h)
  exact (this.cons x).trans (List.Perm.swap _ _ _)
theorem zGd (k : Str) (hk0 : 0 < k.length) (hk : k.length ≤ 12) :
  P2 (T := {L : List Str // (∀ s, s ∈ L ↔ Z1 k s) ∧ L.length ≤ 2000000000}) prog 115 [sV k] [] (fun L => .own 0 1 0 L.1.length) (fun L => [.row 1 (L.1.map sV)]) := by
 have hca : u0 prog 140 = true := by kernel_rfl
 have sc : zKq prog 140 (zAG (k.take 1) 1) (Y4 k []) (.tup []) (Y4 k (Y5 k)) := zB1 k (by omega) k.length [] (k.take 1) 1 (by omega) (by simp; omega) (by omega) (fun x hx => by cases hx)
 have hmem := fun x => zBL (k := k) (x := x)
 have hsm : SmallL (Y5 k) := SmallL.go (fun x hx => by cases hx) (by omega) (by omega)
 have hML := zAJ hk hk0
 have hmt : (zLP prog 155).isSome = true := by kernel_rfl
 generalize Y5 k = M at *
 refine zG8 func115 rfl (fun E hE => ?_); simp only [go_sem, ntmps115]
 repeat' (first | (refine Qr rfl ?_; try intro _ hK; try simp only [go_sem, *]) | (refine Qi rfl rfl rfl rfl ?_ ?_ <;> (intro hb; (try intro _ hK); have hc := hb; try simp only [go_sem] at hc; simp only [go_sem, *])) | refine Qh rfl ?_ | refine Qd rfl (by kernel_rfl) ?_ | (refine Qc rfl rfl ?_ ?_ <;> (intro hb; have hc := hb; try simp only [go_sem] at hc)) | refine q6 rfl ?_ | (refine Qb ?_ ?_; focus kernel_rfl) | ((with_reducible apply And.intro); focus omega) | (refine z8 hK ?_; clear hK; simp only [go_sem, *]) | simp only [z7, z6, go_sem, *])
 refine x4 [0, 2, 3, 1] sc ?_
 simp only [go_sem, *]
 refine z8 hK ?_
 clear hK
 simp only [go_sem, *]
 repeat' (first | (refine Qr (ops := _ :: _) rfl ?_; try intro _ hK; try simp only [go_sem, *]) | (refine Qi rfl rfl rfl rfl ?_ ?_ <;> (intro hb; (try intro _ hK); have hc := hb; try simp only [go_sem] at hc; simp only [go_sem, *])) | (refine Qb ?_ ?_; focus kernel_rfl) | ((with_reducible apply And.intro); focus omega) | (refine z8 hK ?_; clear hK; simp only [go_sem, *]) | simp only [z7, z6, go_sem, *])
 refine u1 ?_
 refine Qb ?_ ?_
 focus kernel_rfl
 try simp only [z7, z6, go_sem, *]
 refine Z7 (N := 24) (env := [(3, .ptr 0 0)]) (As := [.box [.fmap (M.map zKz) (M.map fun _ => bV true)]]) [some 2] [1] (by (simp only [Weak, go_sem, List.map_append, List.map_set, *] <;> (try simp (disch := omega) only [u9]) <;> (try simp) <;> (try omega))) ?_
 repeat' (first | (refine Qr rfl ?_; try intro _ hK; try simp only [go_sem, *]) | (refine Qi rfl rfl rfl rfl ?_ ?_ <;> (intro hb; (try intro _ hK); have hc := hb; try simp only [go_sem] at hc; simp only [go_sem, *])) | refine Qh rfl ?_ | refine Qd rfl (by kernel_rfl) ?_ | (refine Qc rfl rfl ?_ ?_ <;> (intro hb; have hc := hb; try simp only [go_sem] at hc)) | refine q6 rfl ?_ | (refine Qb ?_ ?_; focus kernel_rfl) | ((with_reducible apply And.intro); focus omega) | (refine z8 hK ?_; clear hK; simp only [go_sem, *]) | simp only [z7, z6, go_sem, *])
 clear sc hsm
 refine K6 rfl (M.length) (fun i (cur : Option (Value × AV)) (S : List Str × List Str) => S.1.length + i = M.length ∧ S.2.length = i ∧ ∀ x, (x ∈ S.2 ∨ x ∈ S.1) ↔ x ∈ M) 24 (fun i cur S => [(14, .ptr 0 0), (5, .own 1 1 0 i)]) (fun i cur S => [.iter cur (S.1.map zKz) (S.1.map fun _ => bV true), .row 1 (S.2.map sV)]) [some 1, none] [] (none) ((M, [])) (by exact ⟨by simp, rfl, fun x => by simp⟩) ?_; intro i cur S hi hP
 obtain ⟨rem, acc⟩ := S
 simp only at hP ⊢
 refine I8 rfl ?_
 refine zFu (o := 0) rfl rfl rfl rfl rfl rfl rfl cur (rem.map zKz) (rem.map fun _ => bV true) (by simp only [go_sem]) (by simp only [go_sem]) (show (15 : Nat) < 24 by decide) (show (16 : Nat) < 24 by decide) (fun hk0 _ => ?_) (fun r hr1 hr2 => ?_)
 ·obtain rfl : rem = [] := by simpa using hk0
  obtain ⟨h1, h2, h3⟩ := hP
  have hL : ∀ s, s ∈ acc ↔ Z1 k s := fun s => by rw [← hmem, ← h3]; simp
  have hLl : acc.length ≤ 2000000000 := by simp only [List.length_nil] at h1; omega
  clear hmem h3
  simp only [go_sem]
  repeat' (first | (refine Qr rfl ?_; try intro _ hK; try simp only [go_sem, *]) | (refine Qi rfl rfl rfl rfl ?_ ?_ <;> (intro hb; (try intro _ hK); have hc := hb; try simp only [go_sem] at hc; simp only [go_sem, *])) | refine Qh rfl ?_ | refine Qd rfl (by kernel_rfl) ?_ | (refine Qc rfl rfl ?_ ?_ <;> (intro hb; have hc := hb; try simp only [go_sem] at hc)) | refine q6 rfl ?_ | (refine Qb ?_ ?_; focus kernel_rfl) | ((with_reducible apply And.intro); focus omega) | (refine z8 hK ?_; clear hK; simp only [go_sem, *]) | simp only [z7, z6, go_sem, *])
  all_goals try contradiction
  refine ⟨⟨acc, hL, hLl⟩, [_], [some 1], [], ⟨rfl, trivial⟩, ?_⟩
  simp only [go_sem, *]
 ·have hr : r < rem.length := by simpa using hr1
  have e1 : (rem.map zKz)[r] = zKz rem[r] := by simp
  have e2 : (rem.map fun _ => bV true)[r] = bV true := by simp
  have e3 : (rem.map zKz).eraseIdx r = (rem.eraseIdx r).map zKz := (D0 zKz rem r).symm
  have e4 : (rem.map fun _ => bV true).eraseIdx r = (rem.eraseIdx r).map fun _ => bV true := (D0 _ rem r).symm
  rw [e1, e2, e3, e4]
  have hq : (rem[r] :: rem.eraseIdx r).Perm rem := (zAO rem r hr).symm
  have hel : (rem.eraseIdx r).length = rem.length - 1 := List.length_eraseIdx_of_lt hr
  clear e1 e2 e3 e4
  generalize rem.eraseIdx r = rem' at *
  generalize rem[r] = x at *
  obtain ⟨h1, h2, h3⟩ := hP
  have hP2 : rem'.length + (i + 1) = M.length ∧ (acc ++ [x]).length = i + 1 ∧ ∀ z, (z ∈ acc ++ [x] ∨ z ∈ rem') ↔ z ∈ M := ⟨by omega, by simp [h2], fun z => by
   rw [← h3, ← hq.mem_iff]; simp [or_assoc]⟩
  have hil : i < M.length := by omega
  clear hmem h1 h3 hq hel hr hr1 hr2
  simp only [go_sem]
  repeat' (first | (refine Qr rfl ?_; try intro _ hK; try simp only [go_sem, *]) | (refine Qi rfl rfl rfl rfl ?_ ?_ <;> (intro hb; (try intro _ hK); have hc := hb; try simp only [go_sem] at hc; simp only [go_sem, *])) | refine Qh rfl ?_ | refine Qd rfl (by kernel_rfl) ?_ | (refine Qc rfl rfl ?_ ?_ <;> (intro hb; have hc := hb; try simp only [go_sem] at hc)) | refine q6 rfl ?_ | (refine Qb ?_ ?_; focus kernel_rfl) | ((with_reducible apply And.intro); focus omega) | (refine z8 hK ?_; clear hK; simp only [go_sem, *]) | simp only [z7, z6, go_sem, *])
  all_goals try contradiction
  exact Q1 (i' := i + 1) [some 0, some 3] [] ((some (zKz x, bV true))) ((rem', acc ++ [x])) (by exact hP2)
end Go.Abs

namespace Go.Abs
open Go Go.Proofs Tryz
attribute [local irreducible] q9 Hold y3
def zL8 : Bool → Value
 | true => .func (.func 80) #[] #[]
 | false => .func (.func 83) #[] #[]
abbrev zLK (up : Bool) : AV := .raw (zL8 up)
def zLp (up : Bool) (a b : Nat) : Int := if up = true then (a : Int) - b else (b : Int) - a
theorem zC4 (up : Bool) (a b : Str) : zKu up a b = orI (zLp up a.length b.length) (zKv a b) := rfl
theorem zGu (a b : Nat) (ha : a ≤ 1000) (hb1 : b ≤ 1000) : zKq prog 80 [iV a, iV b] [] (iV ((a : Int) - b)) [] := by
 have hw : IntKind.i64.wrap ((a : Int) - b) = (a : Int) - b := wrap_i64 (by omega) (by omega)
 refine q7 func80 rfl (fun E hE => ?_); simp only [go_sem, ntmps80]
 repeat' (first | (refine Qr rfl ?_; try intro _ hK; try simp only [go_sem, *]) | refine Qh rfl ?_ | (refine Qc rfl rfl ?_ ?_ <;> (intro hb; have hc := hb; try simp only [go_sem] at hc)) | refine q6 rfl ?_ | ((with_reducible apply And.intro); focus omega) | (refine z8 hK ?_; clear hK; simp only [go_sem, *]) | simp only [z7, z6, go_sem, *])
 (refine ⟨[_], [], [], ⟨rfl, trivial⟩, ?_⟩; simp only [go_sem, *])
theorem zGt (a b : Nat) (ha : a ≤ 1000) (hb1 : b ≤ 1000) : zKq prog 83 [iV a, iV b] [] (iV ((b : Int) - a)) [] := by
 have hw : IntKind.i64.wrap ((b : Int) - a) = (b : Int) - a := wrap_i64 (by omega) (by omega)
 refine q7 func83 rfl (fun E hE => ?_); simp only [go_sem, ntmps83]
 repeat' (first | (refine Qr rfl ?_; try intro _ hK; try simp only [go_sem, *]) | refine Qh rfl ?_ | (refine Qc rfl rfl ?_ ?_ <;> (intro hb; have hc := hb; try simp only [go_sem] at hc)) | refine q6 rfl ?_ | ((with_reducible apply And.intro); focus omega) | (refine z8 hK ?_; clear hK; simp only [go_sem, *]) | simp only [z7, z6, go_sem, *])
 (refine ⟨[_], [], [], ⟨rfl, trivial⟩, ?_⟩; simp only [go_sem, *])
theorem zGc (up : Bool) (a b : Str) (ha : a.length ≤ 1000) (hb1 : b.length ≤ 1000) : zKq prog 118 [sV a, sV b, .ptr 0 0] [.box [zLK up]] (iV (zKu up a b)) [.box [zLK up]] := by
 have s1 := zGu a.length b.length ha hb1
 have s2 := zGt a.length b.length ha hb1
 have s3 := zBu a b
 have so := zBx [zLp up a.length b.length, zKv a b] (by simp)
 rw [zBX] at so
 rw [zC4]
 have hca : u0 prog 80 = true := by kernel_rfl
 have hcb : u0 prog 83 = true := by kernel_rfl
 cases up
 ·have e : zLp false a.length b.length = (b.length : Int) - a.length := rfl
  have ex : zLK false = .raw (.func (.func 83) #[] #[]) := rfl
  rw [e] at so ⊢
  rw [ex]
  generalize (b.length : Int) - a.length = n at *
  generalize zKv a b = c at *
  generalize orI n c = r at *
  clear e ex s1
  refine q7 func118 rfl (fun E hE => ?_); simp only [go_sem, ntmps118]
  repeat' (first | (refine Qr rfl ?_; try intro _ hK; try simp only [go_sem, *]) | refine Qh rfl ?_ | (refine Qc rfl rfl ?_ ?_ <;> (intro hb; have hc := hb; try simp only [go_sem] at hc)) | refine q6 rfl ?_ | (refine y5 (s2) ?_ ?_; (focus (simp only [go_sem, *]; done)); simp only [go_sem, *]) | (refine y5 (s3) ?_ ?_; (focus (simp only [go_sem, *]; done)); simp only [go_sem, *]) | ((with_reducible apply And.intro); focus omega) | (refine z8 hK ?_; clear hK; simp only [go_sem, *]) | simp only [z7, z6, go_sem, *])
  (refine U5 [1] (so) (by simp only [go_sem, *]) (.raw _) ?_; simp only [go_sem, *])
  repeat' (first | (refine Qr rfl ?_; try intro _ hK; try simp only [go_sem, *]) | refine Qh rfl ?_ | (refine Qc rfl rfl ?_ ?_ <;> (intro hb; have hc := hb; try simp only [go_sem] at hc)) | refine q6 rfl ?_ | ((with_reducible apply And.intro); focus omega) | (refine z8 hK ?_; clear hK; simp only [go_sem, *]) | simp only [z7, z6, go_sem, *])
  refine ⟨[_], [some 0], [], ⟨rfl, trivial⟩, ?_⟩
  simp only [go_sem, *]
 ·have e : zLp true a.length b.length = (a.length : Int) - b.length := rfl
  have ex : zLK true = .raw (.func (.func 80) #[] #[]) := rfl
  rw [e] at so ⊢
  rw [ex]
  generalize (a.length : Int) - b.length = n at *
  generalize zKv a b = c at *
  generalize orI n c = r at *
  clear e ex s2
  refine q7 func118 rfl (fun E hE => ?_); simp only [go_sem, ntmps118]
  repeat' (first | (refine Qr rfl ?_; try intro _ hK; try simp only [go_sem, *]) | refine Qh rfl ?_ | (refine Qc rfl rfl ?_ ?_ <;> (intro hb; have hc := hb; try simp only [go_sem] at hc)) | refine q6 rfl ?_ | (refine y5 (s1) ?_ ?_; (focus (simp only [go_sem, *]; done)); simp only [go_sem, *]) | (refine y5 (s3) ?_ ?_; (focus (simp only [go_sem, *]; done)); simp only [go_sem, *]) | ((with_reducible apply And.intro); focus omega) | (refine z8 hK ?_; clear hK; simp only [go_sem, *]) | simp only [z7, z6, go_sem, *])
  (refine U5 [1] (so) (by simp only [go_sem, *]) (.raw _) ?_; simp only [go_sem, *])
  repeat' (first | (refine Qr rfl ?_; try intro _ hK; try simp only [go_sem, *]) | refine Qh rfl ?_ | (refine Qc rfl rfl ?_ ?_ <;> (intro hb; have hc := hb; try simp only [go_sem] at hc)) | refine q6 rfl ?_ | ((with_reducible apply And.intro); focus omega) | (refine z8 hK ?_; clear hK; simp only [go_sem, *]) | simp only [z7, z6, go_sem, *])
  refine ⟨[_], [some 0], [], ⟨rfl, trivial⟩, ?_⟩
  simp only [go_sem, *]
noncomputable def zAU : Code := sub [0, 1, 0, 1, 1, 1] (Y3 Tryz.f116)
noncomputable def T2 (fn : FuncId) : LoopK := ⟨fn, #[10], R1 zAU, R2 zAU, 23⟩
def zAA : Option Str → AV
 | none => sV []
 | some c => sV c
@[go_sem] theorem zIJ : zAA none = .raw (.string ⟨#[]⟩) := rfl
@[go_sem] theorem zIK (c : Str) : zAA (some c) = sV c := rfl
def i9 : Option Str → Value
 | none => .string ⟨#[]⟩
 | some c => .string ⟨c.toArray⟩
abbrev zDF : AV := .fn 118 [.ptr 4 0]
noncomputable abbrev j9 (fn : FuncId) (up : Bool) (B : Option Str) : List AObj := [.loopo (T2 fn) [(3, .ptr 1 0), (6, .ptr 2 0), (7, .ptr 3 0)] (some none), .box [zDF], .box [.raw (i9 B)], .box [bV B.isSome], .box [zLK up]]
theorem zHh (fn : FuncId) (up : Bool) (c : Str) : l7 prog [sV c] (j9 fn up none) (bV true) (j9 fn up (some c)) := by
 simp only [j9, i9, Option.isSome_none, Option.isSome_some]
 refine V7 (L := T2 fn) (env := [(3, .ptr 1 0), (6, .ptr 2 0), (7, .ptr 3 0)]) (j := none) rfl rfl (fun E l hE => ?_)
 refine r6 rfl ?_
 simp only [T2, j3, go_sem]
 repeat' (first | (refine Qr (ops := _ :: _) rfl ?_; try intro _ hK; try simp only [go_sem, *]) | (refine Qi rfl rfl rfl rfl ?_ ?_ <;> (intro hb; (try intro _ hK); have hc := hb; try simp only [go_sem] at hc; simp only [go_sem, *])) | (refine Qb ?_ ?_; focus kernel_rfl) | ((with_reducible apply And.intro); focus omega) | (refine z8 hK ?_; clear hK; simp only [go_sem, *]) | simp only [z7, z6, go_sem, *])
 refine u1 ?_
 refine ⟨by simp only [go_sem], ?_⟩
 refine V1 (id := 1) rfl ?_
 refine c4 rfl ?_
 refine r6 rfl ?_
 simp only [go_sem]
 repeat' (first | (refine Qr (ops := _ :: _) rfl ?_; try intro _ hK; try simp only [go_sem, *]) | (refine Qi rfl rfl rfl rfl ?_ ?_ <;> (intro hb; (try intro _ hK); have hc := hb; try simp only [go_sem] at hc; simp only [go_sem, *])) | (refine Qb ?_ ?_; focus kernel_rfl) | ((with_reducible apply And.intro); focus omega) | (refine z8 hK ?_; clear hK; simp only [go_sem, *]) | simp only [z7, z6, go_sem, *])
 refine u1 ?_
 refine X7 (t := true) rfl (by simp only [go_sem]) (fun _ => ?_) (fun h => by cases h)
 refine r6 rfl ?_
 simp only [go_sem]
 repeat' (first | (refine Qr (ops := _ :: _) rfl ?_; try intro _ hK; try simp only [go_sem, *]) | (refine Qi rfl rfl rfl rfl ?_ ?_ <;> (intro hb; (try intro _ hK); have hc := hb; try simp only [go_sem] at hc; simp only [go_sem, *])) | (refine Qb ?_ ?_; focus kernel_rfl) | ((with_reducible apply And.intro); focus omega) | (refine z8 hK ?_; clear hK; simp only [go_sem, *]) | simp only [z7, z6, go_sem, *])
 refine u1 ?_
 simp only [z6, go_sem]
 refine ⟨rfl, [some 0, some 1, some 2, some 3, some 4], [], ?_⟩
 simp only [go_sem, *]
theorem zHi (fn : FuncId) (up : Bool) (b c : Str) (hb1 : b.length ≤ 1000) (hc1 : c.length ≤ 1000) : l7 prog [sV c] (j9 fn up (some b)) (bV true) (j9 fn up (some (if zKu up c b < 0 then c else b))) := by
 have hca : u0 prog 118 = true := by kernel_rfl
 have sc := zGc up c b hc1 hb1
 simp only [j9, i9, Option.isSome_none, Option.isSome_some]
 refine V7 (L := T2 fn) (env := [(3, .ptr 1 0), (6, .ptr 2 0), (7, .ptr 3 0)]) (j := none) rfl rfl (fun E l hE => ?_)
 refine r6 rfl ?_
 simp only [T2, j3, go_sem]
 repeat' (first | (refine Qr (ops := _ :: _) rfl ?_; try intro _ hK; try simp only [go_sem, *]) | (refine Qi rfl rfl rfl rfl ?_ ?_ <;> (intro hb; (try intro _ hK); have hc := hb; try simp only [go_sem] at hc; simp only [go_sem, *])) | (refine Qb ?_ ?_; focus kernel_rfl) | ((with_reducible apply And.intro); focus omega) | (refine z8 hK ?_; clear hK; simp only [go_sem, *]) | simp only [z7, z6, go_sem, *])
 refine u1 ?_
 refine ⟨by simp only [go_sem], ?_⟩
 refine V1 (id := 1) rfl ?_
 refine c4 rfl ?_
 refine r6 rfl ?_
 simp only [go_sem]
 repeat' (first | (refine Qr (ops := _ :: _) rfl ?_; try intro _ hK; try simp only [go_sem, *]) | (refine Qi rfl rfl rfl rfl ?_ ?_ <;> (intro hb; (try intro _ hK); have hc := hb; try simp only [go_sem] at hc; simp only [go_sem, *])) | (refine Qb ?_ ?_; focus kernel_rfl) | ((with_reducible apply And.intro); focus omega) | (refine z8 hK ?_; clear hK; simp only [go_sem, *]) | simp only [z7, z6, go_sem, *])
 refine x4 [4] sc ?_
 simp only [go_sem]
 repeat' (first | (refine Qr (ops := _ :: _) rfl ?_; try intro _ hK; try simp only [go_sem, *]) | (refine Qi rfl rfl rfl rfl ?_ ?_ <;> (intro hb; (try intro _ hK); have hc := hb; try simp only [go_sem] at hc; simp only [go_sem, *])) | (refine Qb ?_ ?_; focus kernel_rfl) | ((with_reducible apply And.intro); focus omega) | (refine z8 hK ?_; clear hK; simp only [go_sem, *]) | simp only [z7, z6, go_sem, *])
 refine u1 ?_
 refine X7 (t := decide (zKu up c b < 0)) rfl (by simp only [go_sem]) (fun h => ?_) (fun h => ?_)
 ·rw [if_pos (by simpa using h)]
  refine r6 rfl ?_
  simp only [go_sem]
  repeat' (first | (refine Qr (ops := _ :: _) rfl ?_; try intro _ hK; try simp only [go_sem, *]) | (refine Qi rfl rfl rfl rfl ?_ ?_ <;> (intro hb; (try intro _ hK); have hc := hb; try simp only [go_sem] at hc; simp only [go_sem, *])) | (refine Qb ?_ ?_; focus kernel_rfl) | ((with_reducible apply And.intro); focus omega) | (refine z8 hK ?_; clear hK; simp only [go_sem, *]) | simp only [z7, z6, go_sem, *])
  refine u1 ?_
  simp only [z6, go_sem]
  refine ⟨rfl, [some 0, some 1, some 2, some 3, some 4], [], ?_⟩
  simp only [go_sem, *]
 ·rw [if_neg (by simpa using h)]
  refine N7 rfl ?_
  simp only [z6, go_sem]
  refine ⟨rfl, [some 0, some 1, some 2, some 3, some 4], [], ?_⟩
  simp only [go_sem, *]
theorem zHg (fn : FuncId) (up : Bool) (B : Option Str) (c : Str) (hb1 : ∀ b, B = some b → b.length ≤ 1000) (hc1 : c.length ≤ 1000) : l7 prog [sV c] (j9 fn up B) (bV true) (j9 fn up (y4 (zKu up) B [c])) := by
 cases B with
 | none => exact zHh fn up c
 | some b =>
  have := zHi fn up b c (hb1 b rfl) hc1
  rw [zAW]
  by_cases h : zKu up c b < 0
  ·simp only [if_pos h] at this ⊢; exact this
  ·simp only [if_neg h] at this ⊢; exact this
end Go.Abs

namespace Go.Abs
open Go Go.Proofs Tryz
attribute [local irreducible] q9 Hold y3
theorem zGX (fn : FuncId) (up : Bool) (L : List Str) (B : Option Str) (hL : L.length ≤ 2000000000) (hs : ∀ s, s ∈ L → s.length ≤ 1000) (hB : ∀ b, B = some b → b.length ≤ 1000) :
  zKq prog 141 [.yld 0, .ptr 5 0] (j9 fn up B ++ [.box [y2 L]]) (.tup []) (j9 fn up (y4 (zKu up) B L) ++ [.box [y2 L]]) := by
 obtain ⟨T, hT⟩ : ∃ T, y4 (zKu up) B L = T := ⟨_, rfl⟩
 rw [hT]
 have h0 : y4 (zKu up) B (L.drop 0) = T := hT
 clear hT
 simp only [j9, List.cons_append, List.nil_append]
 refine q7 func141 rfl (fun E hE => ?_); simp only [go_sem, ntmps141]
 repeat' (first | (refine Qr rfl ?_; try intro _ hK; try simp only [go_sem, *]) | refine Qh rfl ?_ | (refine Qc rfl rfl ?_ ?_ <;> (intro hb; have hc := hb; try simp only [go_sem] at hc)) | refine q6 rfl ?_ | ((with_reducible apply And.intro); focus omega) | (refine z8 hK ?_; clear hK; simp only [go_sem, *]) | simp only [z7, z6, go_sem, *])
 refine b7 rfl (L.length) (fun i (Z : Option Str) => y4 (zKu up) Z (L.drop i) = T ∧ ∀ b, Z = some b → b.length ≤ 1000) 16 (fun i Z => [(7, iV i), (6, iV L.length), (5, y2 L), (0, .yld 0)]) (fun i Z => j9 fn up Z ++ [.box [y2 L]]) [some 0, some 1, some 2, some 3, some 4, some 5] [] (B) (by exact ⟨h0, hB⟩) ?_; intro i Z hi hP
 obtain ⟨hP, hZ⟩ := hP
 by_cases hi2 : i < L.length
 ·have hcl := hs _ (l9 hi2)
  rw [o0 hi2] at hP
  have hP : y4 (zKu up) (y4 (zKu up) Z [L.getD i default]) (L.drop (i + 1)) = T := by rw [← hP, ← O0]; rfl
  have hy := zHg fn up Z (L.getD i default) hZ hcl
  have hZ2 : ∀ b, y4 (zKu up) Z [L.getD i default] = some b → b.length ≤ 1000 := fun b hb2 => by
   rcases O1 hb2 with h | h
   ·exact hZ b h
   ·rw [List.mem_singleton.1 h]; exact hcl
  generalize y4 (zKu up) Z [L.getD i default] = Z2 at *
  clear h0 hB hs hZ hcl
  repeat' (first | ((refine M3 2 rfl rfl rfl ?_; simp only [List.take_succ_cons, List.take_zero, List.drop_succ_cons, List.drop_zero])) | (refine Qr rfl ?_; try intro _ hK; try simp only [go_sem, *]) | refine Qh rfl ?_ | (refine Qc rfl rfl ?_ ?_ <;> (intro hb; have hc := hb; try simp only [go_sem] at hc)) | refine q6 rfl ?_ | ((with_reducible apply And.intro); focus omega) | (refine z8 hK ?_; clear hK; simp only [go_sem, *]) | simp only [z7, z6, go_sem, *])
  all_goals first | contradiction | omega | skip
  refine zAk rfl ?_
  refine H1 [0, 1, 2, 3, 4] [] hy rfl rfl (by simp) (by simp only [go_sem]) (by simp only [go_sem]) (by simp) (.inl rfl) (by simp [go_sem]) (by simp [go_sem]) ?_
  simp only [go_sem]
  repeat' (first | (refine Qr rfl ?_; try intro _ hK; try simp only [go_sem, *]) | refine Qh rfl ?_ | (refine Qc rfl rfl ?_ ?_ <;> (intro hb; have hc := hb; try simp only [go_sem] at hc)) | refine q6 rfl ?_ | ((with_reducible apply And.intro); focus omega) | (refine z8 hK ?_; clear hK; simp only [go_sem, *]) | simp only [z7, z6, go_sem, *])
  all_goals first | contradiction | omega | skip
  exact o8 (i' := i + 1) [some 0, some 1, some 2, some 3, some 4, some 5] [] (Z2) (by exact ⟨hP, hZ2⟩)
 ·rw [f5 (by omega)] at hP
  have hP : Z = T := by cases Z <;> exact hP
  subst hP
  clear h0 hB hs hZ
  repeat' (first | (refine Qr rfl ?_; try intro _ hK; try simp only [go_sem, *]) | refine Qh rfl ?_ | (refine Qc rfl rfl ?_ ?_ <;> (intro hb; have hc := hb; try simp only [go_sem] at hc)) | refine q6 rfl ?_ | ((with_reducible apply And.intro); focus omega) | (refine z8 hK ?_; clear hK; simp only [go_sem, *]) | simp only [z7, z6, go_sem, *])
  all_goals first | contradiction | omega | skip
  refine ⟨[], [some 0, some 1, some 2, some 3, some 4, some 5], [], trivial, ?_⟩
  simp only [go_sem, l5, *]
theorem zGW (L : List Str) : zKq prog 117 [y2 L] [] (.fn 141 [.ptr 0 0]) [.box [y2 L]] := by
 refine q7 func117 rfl (fun E hE => ?_); simp only [go_sem, ntmps117]
 repeat' (first | (refine Qr rfl ?_; try intro _ hK; try simp only [go_sem, *]) | refine Qh rfl ?_ | (refine Qc rfl rfl ?_ ?_ <;> (intro hb; have hc := hb; try simp only [go_sem] at hc)) | refine q6 rfl ?_ | ((with_reducible apply And.intro); focus omega) | (refine z8 hK ?_; clear hK; simp only [go_sem, *]) | simp only [z7, z6, go_sem, *])
 refine ⟨[_], [some 0], [], ⟨rfl, trivial⟩, ?_⟩
 simp only [go_sem, *]
theorem zGf (up : Bool) (L : List Str) (hL : L.length ≤ 2000000000) (hs : ∀ s, s ∈ L → s.length ≤ 1000) :
  zKq prog 116 [.fn 141 [.ptr 0 0], .fn 118 [.ptr 1 0]] [.box [y2 L], .box [zLK up]] (.tup [.raw (i9 (j8 (zKu up) L)), bV (j8 (zKu up) L).isSome]) [.box [y2 L], .box [zLK up]] := by
 have s1 := fun fn => zGX fn up L none hL hs (fun b h => by cases h)
 have e : j8 (zKu up) L = y4 (zKu up) none L := rfl
 rw [e]
 generalize y4 (zKu up) none L = B at *
 clear hs e
 simp only [j9, List.cons_append, List.nil_append, show i9 none = .string ⟨#[]⟩ from rfl, Option.isSome_none] at s1
 refine q7 func116 rfl (fun E hE => ?_); simp only [go_sem, ntmps116]
 repeat' (first | (refine Qr rfl ?_; try intro _ hK; try simp only [go_sem, *]) | refine Qh rfl ?_ | refine Qd rfl (by kernel_rfl) ?_ | (refine Qc rfl rfl ?_ ?_ <;> (intro hb; have hc := hb; try simp only [go_sem] at hc)) | refine q6 rfl ?_ | (refine Qb ?_ ?_; focus kernel_rfl) | ((with_reducible apply And.intro); focus omega) | (refine z8 hK ?_; clear hK; simp only [go_sem, *]) | simp only [z7, z6, go_sem, *])
 refine Z7 (N := 23) (env := [(9, .fn 141 [.ptr 0 0]), (3, .ptr 2 0), (6, .ptr 3 0), (7, .ptr 4 0)]) (As := [.box [y2 L], .box [zLK up], .box [.fn 118 [.ptr 1 0]], .box [sV []], .box [bV false]]) [some 0, some 1, some 2, some 3, some 4] [] (by (simp only [Weak, go_sem, List.map_append, List.map_set, *] <;> (try simp (disch := omega) only [u9]) <;> (try simp) <;> (try omega))) ?_
 refine I7 (f := 141) (caps := [.ptr 0 0]) rfl (by simp only [go_sem]) (by kernel_rfl) (nx := 5) (by simp only [go_sem]) (fun fn => ⟨6, ?_⟩)
 refine w9 [5, 2, 3, 4, 1, 0] [] (s1 fn) (by simp) (by simp only [go_sem]) ?_ (by simp) (.inl rfl) (by simp [go_sem]) (by simp [go_sem]) ?_
 ·simp only [go_sem, *]
  first | rfl | exact ⟨rfl, rfl⟩
 ·simp only [go_sem, *]
  refine ⟨T2 fn, [(3, .ptr 2 0), (6, .ptr 3 0), (7, .ptr 4 0)], none, by simp only [go_sem], ?_⟩
  simp only [go_sem]
  repeat' (first | (refine Qr rfl ?_; try intro _ hK; try simp only [go_sem, *]) | refine Qh rfl ?_ | refine Qd rfl (by kernel_rfl) ?_ | (refine Qc rfl rfl ?_ ?_ <;> (intro hb; have hc := hb; try simp only [go_sem] at hc)) | refine q6 rfl ?_ | (refine Qb ?_ ?_; focus kernel_rfl) | ((with_reducible apply And.intro); focus omega) | (refine z8 hK ?_; clear hK; simp only [go_sem, *]) | simp only [z7, z6, go_sem, *])
  refine ⟨[_, _], [some 0, some 1], [], ⟨rfl, rfl, trivial⟩, ?_⟩
  simp only [go_sem, *]
end Go.Abs

namespace Go.Abs
open Go Go.Proofs Tryz
attribute [local irreducible] q9 Hold y3
def okC (l : List Str) (own : Str) (most : Int) (s : Str) : Bool := decide ((s.length : Int) ≤ most) && !t8 s l own
theorem zB0 (l : List Str) (own : Str) (most : Int) (up : Bool) (hv : ∀ s, s ∈ l → ValidN s) (hl : l.length ≤ 1000) (ho0 : 0 < own.length) (ho : own.length ≤ 12) (_hm : -1000 ≤ most ∧ most ≤ 1000) :
  zKq prog 79 [y2 l, sV own, iV most, zLK up] [] (.tup [.raw (i9 (zKy l own most up)), bV (zKy l own most up).isSome]) [] := by
 have hca : u0 prog 114 = true := by kernel_rfl
 have hcb : u0 prog 115 = true := by kernel_rfl
 have sc := zGd own ho0 ho
 have sm := fun k h0 h1 => zGs k own l h0 h1 hv hl
 refine q7 func79 rfl (fun E hE => ?_); simp only [go_sem, ntmps79]
 repeat' (first | ((refine zFp 1 rfl rfl rfl hcb rfl ?_; simp only [List.take_succ_cons, List.take_zero, List.drop_succ_cons, List.drop_zero])) | (refine Qr rfl ?_; try intro _ hK; try simp only [go_sem, *]) | (refine Qi rfl rfl rfl rfl ?_ ?_ <;> (intro hb; (try intro _ hK); have hc := hb; try simp only [go_sem] at hc; simp only [go_sem, *])) | refine Qh rfl ?_ | (refine Qc rfl rfl ?_ ?_ <;> (intro hb; have hc := hb; try simp only [go_sem] at hc)) | refine q6 rfl ?_ | ((with_reducible apply And.intro); focus omega) | (refine z8 hK ?_; clear hK; simp only [go_sem, *]) | simp only [z7, z6, go_sem, *])
 refine zCd ⟨Y5 own, fun s => zBL, zAJ ho ho0⟩ [] [] sc (by simp) (by simp only [go_sem]) trivial (by simp) (.inl rfl) (by simp [go_sem]) (by simp [go_sem]) (fun L => ?_)
 obtain ⟨L, hLm, hLl⟩ := L
 simp only [go_sem]
 clear sc
 obtain ⟨F, hF⟩ : ∃ F, L.filter (okC l own most) = F := ⟨_, rfl⟩
 have hcut : j8 (zKu up) F = zKy l own most up := zDH (fun s => by
  rw [← hF, List.mem_filter, hLm]
  unfold okC Z3
  simp only [Bool.and_eq_true, decide_eq_true_eq, Bool.not_eq_true'])
 have hFs : ∀ s, s ∈ F → s.length ≤ 1000 := fun s hs => by
  rw [← hF, List.mem_filter, hLm] at hs
  obtain ⟨⟨t, _, _, h⟩, _⟩ := hs
  omega
 have h0 : [] ++ (L.drop 0).filter (okC l own most) = F := hF
 rw [← hcut]
 have hFl : F.length ≤ 2000000000 := by rw [← hF]; exact Nat.le_trans (List.length_filter_le _ _) hLl
 have hLs : ∀ s, s ∈ L → 0 < s.length ∧ s.length ≤ 12 := fun s hs => by
  have h := (hLm s).1 hs
  have h1 := zEf h
  obtain ⟨t, _, _, h⟩ := h
  omega
 clear hF hcut hLm
 repeat' (first | (refine Qr rfl ?_; try intro _ hK; try simp only [go_sem, *]) | (refine Qi rfl rfl rfl rfl ?_ ?_ <;> (intro hb; (try intro _ hK); have hc := hb; try simp only [go_sem] at hc; simp only [go_sem, *])) | refine Qh rfl ?_ | (refine Qc rfl rfl ?_ ?_ <;> (intro hb; have hc := hb; try simp only [go_sem] at hc)) | refine q6 rfl ?_ | ((with_reducible apply And.intro); focus omega) | (refine z8 hK ?_; clear hK; simp only [go_sem, *]) | simp only [z7, z6, go_sem, *])
 refine b7 rfl (L.length) (fun i (acc : List Str) => acc ++ (L.drop i).filter (okC l own most) = F) 43 (fun i acc => [(17, iV i), (16, iV L.length), (15, .own 1 1 0 L.length), (10, .own 2 1 0 acc.length), (11, fnV 114), (7, .ptr 0 0), (0, y2 l), (1, sV own), (2, iV most)]) (fun i acc => [.box [zLK up], .row 1 (L.map sV), .row 1 (acc.map sV)]) [some 0, some 1, none] [] ([]) (by exact h0) ?_; intro i acc hi hP
 clear h0
 by_cases hi2 : i < L.length
 ·obtain ⟨hx0, hx1⟩ := hLs _ (l9 hi2)
  have s1 := sm _ hx0 (by omega)
  have hal : acc.length ≤ 2000000000 := by
   have := congrArg List.length hP
   rw [List.length_append] at this
   omega
  rw [o0 hi2, List.filter_cons, show okC l own most (L.getD i default) = (decide (((L.getD i default).length : Int) ≤ most) && !t8 (L.getD i default) l own) from rfl] at hP
  generalize hxe : L.getD i default = x at *
  generalize t8 x l own = b at *
  clear sm hLs hv
  by_cases q : (x.length : Int) ≤ most
  ·cases b
   ·rw [decide_eq_true q] at hP
    have hP : (acc ++ [x]) ++ (L.drop (i + 1)).filter (okC l own most) = F := by rw [← hP]; simp
    repeat' (first | (refine Qr rfl ?_; try intro _ hK; try simp only [go_sem, *]) | (refine Qi rfl rfl rfl rfl ?_ ?_ <;> (intro hb; (try intro _ hK); have hc := hb; try simp only [go_sem] at hc; simp only [go_sem, *])) | refine Qh rfl ?_ | (refine Qc rfl rfl ?_ ?_ <;> (intro hb; have hc := hb; try simp only [go_sem] at hc)) | refine q6 rfl ?_ | (refine y1 (s1) ?_; simp only [go_sem, *]) | ((with_reducible apply And.intro); focus omega) | (refine z8 hK ?_; clear hK; simp only [go_sem, *]) | simp only [z7, z6, go_sem, *])
    all_goals first | contradiction | omega | skip
    exact o8 (i' := i + 1) [some 0, some 1, some 4] [] (acc ++ [x]) (by exact hP)
   ·rw [decide_eq_true q] at hP
    have hP : acc ++ (L.drop (i + 1)).filter (okC l own most) = F := hP
    repeat' (first | (refine Qr rfl ?_; try intro _ hK; try simp only [go_sem, *]) | (refine Qi rfl rfl rfl rfl ?_ ?_ <;> (intro hb; (try intro _ hK); have hc := hb; try simp only [go_sem] at hc; simp only [go_sem, *])) | refine Qh rfl ?_ | (refine Qc rfl rfl ?_ ?_ <;> (intro hb; have hc := hb; try simp only [go_sem] at hc)) | refine q6 rfl ?_ | (refine y1 (s1) ?_; simp only [go_sem, *]) | ((with_reducible apply And.intro); focus omega) | (refine z8 hK ?_; clear hK; simp only [go_sem, *]) | simp only [z7, z6, go_sem, *])
    all_goals first | contradiction | omega | skip
    exact o8 (i' := i + 1) [some 0, some 1, some 2] [] (acc) (by exact hP)
  ·rw [decide_eq_false q] at hP
   have hP : acc ++ (L.drop (i + 1)).filter (okC l own most) = F := hP
   repeat' (first | (refine Qr rfl ?_; try intro _ hK; try simp only [go_sem, *]) | (refine Qi rfl rfl rfl rfl ?_ ?_ <;> (intro hb; (try intro _ hK); have hc := hb; try simp only [go_sem] at hc; simp only [go_sem, *])) | refine Qh rfl ?_ | (refine Qc rfl rfl ?_ ?_ <;> (intro hb; have hc := hb; try simp only [go_sem] at hc)) | refine q6 rfl ?_ | (refine y1 (s1) ?_; simp only [go_sem, *]) | ((with_reducible apply And.intro); focus omega) | (refine z8 hK ?_; clear hK; simp only [go_sem, *]) | simp only [z7, z6, go_sem, *])
   all_goals first | contradiction | omega | skip
   exact o8 (i' := i + 1) [some 0, some 1, some 2] [] (acc) (by exact hP)
 ·rw [f5 (by omega)] at hP
  have hP : acc = F := by rw [← hP]; simp
  subst hP
  clear sm hLs hv
  have sV1 := zGW acc
  have sF := zGf up acc hFl hFs
  generalize j8 (zKu up) acc = o at *
  clear hFs
  repeat' (first | (refine Qr rfl ?_; try intro _ hK; try simp only [go_sem, *]) | (refine Qi rfl rfl rfl rfl ?_ ?_ <;> (intro hb; (try intro _ hK); have hc := hb; try simp only [go_sem] at hc; simp only [go_sem, *])) | refine Qh rfl ?_ | (refine Qc rfl rfl ?_ ?_ <;> (intro hb; have hc := hb; try simp only [go_sem] at hc)) | refine q6 rfl ?_ | ((with_reducible apply And.intro); focus omega) | (refine z8 hK ?_; clear hK; simp only [go_sem, *]) | simp only [z7, z6, go_sem, *])
  all_goals first | contradiction | omega | skip
  refine c7 [] [2] sV1 rfl (by simp only [go_sem]) (by simp) ?_ ?_ (by simp [go_sem]) (by simp [go_sem]) ?_
  ·simp only [go_sem, *]
  ·simp only [go_sem, *]
  simp only [go_sem, w3, *]
  repeat' (first | (refine Qr rfl ?_; try intro _ hK; try simp only [go_sem, *]) | (refine Qi rfl rfl rfl rfl ?_ ?_ <;> (intro hb; (try intro _ hK); have hc := hb; try simp only [go_sem] at hc; simp only [go_sem, *])) | refine Qh rfl ?_ | (refine Qc rfl rfl ?_ ?_ <;> (intro hb; have hc := hb; try simp only [go_sem] at hc)) | refine q6 rfl ?_ | ((with_reducible apply And.intro); focus omega) | (refine z8 hK ?_; clear hK; simp only [go_sem, *]) | simp only [z7, z6, go_sem, *])
  refine x4 [3, 0] sF ?_
  simp only [go_sem, *]
  repeat' (first | (refine Qr rfl ?_; try intro _ hK; try simp only [go_sem, *]) | (refine Qi rfl rfl rfl rfl ?_ ?_ <;> (intro hb; (try intro _ hK); have hc := hb; try simp only [go_sem] at hc; simp only [go_sem, *])) | refine Qh rfl ?_ | (refine Qc rfl rfl ?_ ?_ <;> (intro hb; have hc := hb; try simp only [go_sem] at hc)) | refine q6 rfl ?_ | ((with_reducible apply And.intro); focus omega) | (refine z8 hK ?_; clear hK; simp only [go_sem, *]) | simp only [z7, z6, go_sem, *])
  all_goals first | contradiction | omega | skip
  (refine ⟨[_, _], [], [], ⟨rfl, rfl, trivial⟩, ?_⟩; simp only [go_sem, *])
end Go.Abs

namespace Go.Abs
open Go Go.Proofs Tryz
attribute [local irreducible] q9 Hold y3
theorem zEl {s : Str} (v : ValidN s) : 0 < (zKs s).length ∧ (zKs s).length ≤ 12 := by
 have h := E2 v
 unfold y8 at h
 simp only [Bool.and_eq_true, decide_eq_true_eq] at h
 omega
theorem zB3 (l : List Str) (n : Int) (hl : l.length ≤ 4294967296) : zKq prog 78 [y2 l, iV n] [] (.tup [sV (if p5 l n = 0 then w8 l n else []), iV (p5 l n)]) [] := by
 have s1 := zB4 l hl
 unfold p5
 by_cases q : u3 l = 0
 ·rw [if_pos q]
  rw [q] at s1
  have hv := E6 q
  by_cases q2 : n < 0 ∨ (l.length : Int) ≤ n
  ·rw [if_pos q2, if_neg (by decide)]
   clear hv
   by_cases q3 : n < 0
   ·refine q7 func78 rfl (fun E hE => ?_); simp only [go_sem, ntmps78]
    repeat' (first | (refine Qr rfl ?_; try intro _ hK; try simp only [go_sem, *]) | (refine Qi rfl rfl rfl rfl ?_ ?_ <;> (intro hb; (try intro _ hK); have hc := hb; try simp only [go_sem] at hc; simp only [go_sem, *])) | refine Qh rfl ?_ | (refine Qc rfl rfl ?_ ?_ <;> (intro hb; have hc := hb; try simp only [go_sem] at hc)) | refine q6 rfl ?_ | (refine y1 (s1) ?_; simp only [go_sem, *]) | ((with_reducible apply And.intro); focus omega) | (refine z8 hK ?_; clear hK; simp only [go_sem, *]) | simp only [z7, z6, go_sem, *])
    all_goals first | contradiction | omega | skip
    (refine ⟨[_, _], [], [], ⟨rfl, rfl, trivial⟩, ?_⟩; simp only [go_sem, *])
   ·have q4 : (l.length : Int) ≤ n := q2.resolve_left q3
    clear q2
    refine q7 func78 rfl (fun E hE => ?_); simp only [go_sem, ntmps78]
    repeat' (first | (refine Qr rfl ?_; try intro _ hK; try simp only [go_sem, *]) | (refine Qi rfl rfl rfl rfl ?_ ?_ <;> (intro hb; (try intro _ hK); have hc := hb; try simp only [go_sem] at hc; simp only [go_sem, *])) | refine Qh rfl ?_ | (refine Qc rfl rfl ?_ ?_ <;> (intro hb; have hc := hb; try simp only [go_sem] at hc)) | refine q6 rfl ?_ | (refine y1 (s1) ?_; simp only [go_sem, *]) | ((with_reducible apply And.intro); focus omega) | (refine z8 hK ?_; clear hK; simp only [go_sem, *]) | simp only [z7, z6, go_sem, *])
    all_goals first | contradiction | omega | skip
    (refine ⟨[_, _], [], [], ⟨rfl, rfl, trivial⟩, ?_⟩; simp only [go_sem, *])
  ·rw [if_neg q2, if_pos rfl]
   obtain ⟨i, rfl⟩ : ∃ i : Nat, n = i := ⟨n.toNat, by omega⟩
   have hi2 : i < l.length := by omega
   have v := hv _ (l9 hi2)
   have so := V5 _ v.form (by have := v.len; omega)
   have e : w8 l (i : Int) = zKs (l.getD i default) := rfl
   rw [e]
   generalize zKs (l.getD i default) = k at *
   clear hv e v q2
   have q3 : ¬ (i : Int) < 0 := by omega
   refine q7 func78 rfl (fun E hE => ?_); simp only [go_sem, ntmps78]
   repeat' (first | (refine Qr rfl ?_; try intro _ hK; try simp only [go_sem, *]) | (refine Qi rfl rfl rfl rfl ?_ ?_ <;> (intro hb; (try intro _ hK); have hc := hb; try simp only [go_sem] at hc; simp only [go_sem, *])) | refine Qh rfl ?_ | (refine Qc rfl rfl ?_ ?_ <;> (intro hb; have hc := hb; try simp only [go_sem] at hc)) | refine q6 rfl ?_ | ((first | refine y1 (s1) ?_ | refine y1 (so) ?_); simp only [go_sem, *]) | ((with_reducible apply And.intro); focus omega) | (refine z8 hK ?_; clear hK; simp only [go_sem, *]) | simp only [z7, z6, go_sem, *])
   all_goals first | contradiction | omega | skip
   (refine ⟨[_, _], [], [], ⟨rfl, rfl, trivial⟩, ?_⟩; simp only [go_sem, *])
 ·rw [if_neg q, if_neg q]
  generalize u3 l = e at *
  refine q7 func78 rfl (fun E hE => ?_); simp only [go_sem, ntmps78]
  repeat' (first | (refine Qr rfl ?_; try intro _ hK; try simp only [go_sem, *]) | (refine Qi rfl rfl rfl rfl ?_ ?_ <;> (intro hb; (try intro _ hK); have hc := hb; try simp only [go_sem] at hc; simp only [go_sem, *])) | refine Qh rfl ?_ | (refine Qc rfl rfl ?_ ?_ <;> (intro hb; have hc := hb; try simp only [go_sem] at hc)) | refine q6 rfl ?_ | (refine y1 (s1) ?_; simp only [go_sem, *]) | ((with_reducible apply And.intro); focus omega) | (refine z8 hK ?_; clear hK; simp only [go_sem, *]) | simp only [z7, z6, go_sem, *])
  all_goals first | contradiction | omega | skip
  (refine ⟨[_, _], [], [], ⟨rfl, rfl, trivial⟩, ?_⟩; simp only [go_sem, *])
theorem zAq {l : List Str} {n : Int} (q : p5 l n = 0) : (∀ s, s ∈ l → ValidN s) ∧ l.length ≤ 6 ∧ 0 < (w8 l n).length ∧ (w8 l n).length ≤ 12 := by
 unfold p5 at q
 by_cases a : u3 l = 0
 ·rw [if_pos a] at q
  by_cases b : n < 0 ∨ (l.length : Int) ≤ n
  ·rw [if_pos b] at q; cases q
  ·have hv := E6 a
   have v : ValidN (l.getD n.toNat default) := hv _ (l9 (by omega))
   exact ⟨hv, zBB a, zEl v⟩
 ·rw [if_neg a] at q; exact absurd q a
theorem zAH {l : List Str} {own : Str} {most : Int} {up : Bool} {s : Str} (h : zKy l own most up = some s) : s.length < own.length := by
 obtain ⟨⟨t, _, _, h⟩, _⟩ := (cutN_some.1 h).1
 exact h
theorem M6 (l : List Str) (n : Int) (hl : l.length ≤ 4294967296) : zKq prog 29 [y2 l, iV n] [] (.tup [sV (j4 l n), iV (n0 l n)]) [] := by
 have s1 := zB3 l n hl
 unfold j4 n0
 by_cases q : p5 l n = 0
 ·obtain ⟨hv, h6, hk0, hk1⟩ := zAq q
  rw [if_pos q] at s1
  rw [if_pos q, if_pos q]
  rw [q] at s1
  have sc : zKq prog 79 [y2 l, sV (w8 l n), iV 12, fnV 80] [] (.tup [.raw (i9 (zKy l (w8 l n) 12 true)), bV (zKy l (w8 l n) 12 true).isSome]) [] := zB0 l (w8 l n) 12 true hv (by omega) hk0 hk1 (by omega)
  have hcl := fun s => zAH (l := l) (own := w8 l n) (most := 12) (up := true) (s := s)
  generalize w8 l n = k at *
  generalize zKy l k 12 true = o at *
  clear hv q
  cases o with
  | none =>
   rw [show (none : Option Str).isSome = false from rfl] at sc ⊢
   rw [if_neg (by decide)]
   simp only [i9, Option.map_none, Option.getD_none] at sc ⊢
   refine q7 func29 rfl (fun E hE => ?_); simp only [go_sem, ntmps29]
   repeat' (first | (refine Qr rfl ?_; try intro _ hK; try simp only [go_sem, *]) | refine Qh rfl ?_ | (refine Qc rfl rfl ?_ ?_ <;> (intro hb; have hc := hb; try simp only [go_sem] at hc)) | refine q6 rfl ?_ | ((first | refine y1 (s1) ?_ | refine y1 (sc) ?_); simp only [go_sem, *]) | ((with_reducible apply And.intro); focus omega) | (refine z8 hK ?_; clear hK; simp only [go_sem, *]) | simp only [z7, z6, go_sem, *])
   all_goals try contradiction
   (refine ⟨[_, _], [], [], ⟨rfl, rfl, trivial⟩, ?_⟩; simp only [go_sem, *])
  | some c =>
   have hc1 := hcl c rfl
   rw [show (some c : Option Str).isSome = true from rfl] at sc ⊢
   rw [if_pos rfl]
   simp only [i9, Option.map_some, Option.getD_some, zLk] at sc ⊢
   clear hcl
   refine q7 func29 rfl (fun E hE => ?_); simp only [go_sem, ntmps29]
   repeat' (first | (refine Qr rfl ?_; try intro _ hK; try simp only [go_sem, *]) | refine Qh rfl ?_ | (refine Qc rfl rfl ?_ ?_ <;> (intro hb; have hc := hb; try simp only [go_sem] at hc)) | refine q6 rfl ?_ | ((first | refine y1 (s1) ?_ | refine y1 (sc) ?_); simp only [go_sem, *]) | ((with_reducible apply And.intro); focus omega) | (refine z8 hK ?_; clear hK; simp only [go_sem, *]) | simp only [z7, z6, go_sem, *])
   all_goals try contradiction
   (refine ⟨[_, _], [], [], ⟨rfl, rfl, trivial⟩, ?_⟩; simp only [go_sem, *])
 ·rw [if_neg q] at s1
  rw [if_neg q, if_neg q]
  generalize p5 l n = e at *
  refine q7 func29 rfl (fun E hE => ?_); simp only [go_sem, ntmps29]
  repeat' (first | (refine Qr rfl ?_; try intro _ hK; try simp only [go_sem, *]) | refine Qh rfl ?_ | (refine Qc rfl rfl ?_ ?_ <;> (intro hb; have hc := hb; try simp only [go_sem] at hc)) | refine q6 rfl ?_ | (refine y1 (s1) ?_; simp only [go_sem, *]) | ((with_reducible apply And.intro); focus omega) | (refine z8 hK ?_; clear hK; simp only [go_sem, *]) | simp only [z7, z6, go_sem, *])
  all_goals try contradiction
  (refine ⟨[_, _], [], [], ⟨rfl, rfl, trivial⟩, ?_⟩; simp only [go_sem, *])
theorem zGK (l : List Str) (n w : Int) (hl : l.length ≤ 4294967296) : zKq prog 31 [y2 l, iV n, iV w] [] (.tup [sV (zLt l n w), iV (G9 l n w)]) [] := by
 have s1 := zB3 l n hl
 unfold zLt G9
 by_cases q : p5 l n = 0
 ·obtain ⟨hv, h6, hk0, hk1⟩ := zAq q
  rw [if_pos q] at s1
  rw [if_pos q, if_pos q]
  rw [q] at s1
  by_cases q1 : w < 1
  ·rw [if_pos q1, if_pos q1]
   clear hv q
   generalize w8 l n = k at *
   refine q7 func31 rfl (fun E hE => ?_); simp only [go_sem, ntmps31]
   repeat' (first | (refine Qr rfl ?_; try intro _ hK; try simp only [go_sem, *]) | refine Qh rfl ?_ | (refine Qc rfl rfl ?_ ?_ <;> (intro hb; have hc := hb; try simp only [go_sem] at hc)) | refine q6 rfl ?_ | (refine y1 (s1) ?_; simp only [go_sem, *]) | ((with_reducible apply And.intro); focus omega) | (refine z8 hK ?_; clear hK; simp only [go_sem, *]) | simp only [z7, z6, go_sem, *])
   all_goals try contradiction
   (refine ⟨[_, _], [], [], ⟨rfl, rfl, trivial⟩, ?_⟩; simp only [go_sem, *])
  ·rw [if_neg q1, if_neg q1]
   by_cases q2 : ((w8 l n).length : Int) ≤ w
   ·rw [if_pos q2, if_pos q2]
    clear hv q
    generalize w8 l n = k at *
    refine q7 func31 rfl (fun E hE => ?_); simp only [go_sem, ntmps31]
    repeat' (first | (refine Qr rfl ?_; try intro _ hK; try simp only [go_sem, *]) | refine Qh rfl ?_ | (refine Qc rfl rfl ?_ ?_ <;> (intro hb; have hc := hb; try simp only [go_sem] at hc)) | refine q6 rfl ?_ | (refine y1 (s1) ?_; simp only [go_sem, *]) | ((with_reducible apply And.intro); focus omega) | (refine z8 hK ?_; clear hK; simp only [go_sem, *]) | simp only [z7, z6, go_sem, *])
    all_goals try contradiction
    (refine ⟨[_, _], [], [], ⟨rfl, rfl, trivial⟩, ?_⟩; simp only [go_sem, *])
   ·rw [if_neg q2, if_neg q2]
    have hw : IntKind.i64.wrap (w - 1) = w - 1 := wrap_i64 (by omega) (by omega)
    have sc : zKq prog 79 [y2 l, sV (w8 l n), iV (w - 1), fnV 83] [] (.tup [.raw (i9 (zKy l (w8 l n) (w - 1) false)), bV (zKy l (w8 l n) (w - 1) false).isSome]) [] := zB0 l (w8 l n) (w - 1) false hv (by omega) hk0 hk1 (by omega)
    have hcl := fun s => zAH (l := l) (own := w8 l n) (most := w - 1) (up := false) (s := s)
    generalize w8 l n = k at *
    generalize zKy l k (w - 1) false = o at *
    clear hv q
    cases o with
    | none =>
     rw [show (none : Option Str).isSome = false from rfl] at sc ⊢
     rw [if_neg (by decide)]
     simp only [i9, Option.map_none, Option.getD_none] at sc ⊢
     refine q7 func31 rfl (fun E hE => ?_); simp only [go_sem, ntmps31]
     repeat' (first | (refine Qr rfl ?_; try intro _ hK; try simp only [go_sem, *]) | refine Qh rfl ?_ | (refine Qc rfl rfl ?_ ?_ <;> (intro hb; have hc := hb; try simp only [go_sem] at hc)) | refine q6 rfl ?_ | ((first | refine y1 (s1) ?_ | refine y1 (sc) ?_); simp only [go_sem, *]) | ((with_reducible apply And.intro); focus omega) | (refine z8 hK ?_; clear hK; simp only [go_sem, *]) | simp only [z7, z6, go_sem, *])
     all_goals try contradiction
     (refine ⟨[_, _], [], [], ⟨rfl, rfl, trivial⟩, ?_⟩; simp only [go_sem, *])
    | some c =>
     have hc1 := hcl c rfl
     rw [show (some c : Option Str).isSome = true from rfl] at sc ⊢
     rw [if_pos rfl]
     simp only [i9, Option.map_some, Option.getD_some, zLk] at sc ⊢
     clear hcl
     refine q7 func31 rfl (fun E hE => ?_); simp only [go_sem, ntmps31]
     repeat' (first | (refine Qr rfl ?_; try intro _ hK; try simp only [go_sem, *]) | refine Qh rfl ?_ | (refine Qc rfl rfl ?_ ?_ <;> (intro hb; have hc := hb; try simp only [go_sem] at hc)) | refine q6 rfl ?_ | ((first | refine y1 (s1) ?_ | refine y1 (sc) ?_); simp only [go_sem, *]) | ((with_reducible apply And.intro); focus omega) | (refine z8 hK ?_; clear hK; simp only [go_sem, *]) | simp only [z7, z6, go_sem, *])
     all_goals try contradiction
     (refine ⟨[_, _], [], [], ⟨rfl, rfl, trivial⟩, ?_⟩; simp only [go_sem, *])
 ·rw [if_neg q] at s1
  rw [if_neg q, if_neg q]
  generalize p5 l n = e at *
  refine q7 func31 rfl (fun E hE => ?_); simp only [go_sem, ntmps31]
  repeat' (first | (refine Qr rfl ?_; try intro _ hK; try simp only [go_sem, *]) | refine Qh rfl ?_ | (refine Qc rfl rfl ?_ ?_ <;> (intro hb; have hc := hb; try simp only [go_sem] at hc)) | refine q6 rfl ?_ | (refine y1 (s1) ?_; simp only [go_sem, *]) | ((with_reducible apply And.intro); focus omega) | (refine z8 hK ?_; clear hK; simp only [go_sem, *]) | simp only [z7, z6, go_sem, *])
  all_goals try contradiction
  (refine ⟨[_, _], [], [], ⟨rfl, rfl, trivial⟩, ?_⟩; simp only [go_sem, *])
end Go.Abs

namespace Go.Abs
open Go Go.Proofs Tryz
attribute [local irreducible] q9 Hold y3
theorem zG3 : zKq prog 22 [] [] (bV true) [] := by
 have s1 := zGP zLW
 rw [zHT, if_pos rfl, zHW] at s1
 have s2 := zGT [N2, zLW, K8, zLo] zHX
 rw [zHa] at s2
 have s3 := zGz
 have s4 := zGB rulesX b9 f8 (by decide) (by decide)
 have e4 : U7 rulesX b9 f8 = some [b9, N3, f8] := by unfold U7; rw [if_pos zCS, zCR]
 have e5 : l8 rulesX b9 f8 = 0 := by unfold l8; rw [if_pos zCS, zCR]; rfl
 rw [e4, e5] at s4
 have s5 := zG0
 have s6 := M6 smithsX 0 (by decide)
 rw [zHY, zHZ] at s6
 have s7 := zGK smithsX 0 4 (by decide)
 rw [zHU, zHV] at s7
 have s8 := zGI [2, 3, 0, 1] [2, 3, 0, 1] (by decide)
 rw [decide_eq_true rfl] at s8
 have s9 := zGJ [b9, N3, f8] [b9, N3, f8] (by decide)
 rw [decide_eq_true rfl] at s9
 clear e4 e5
 simp only [y2, Y6, x6, zCj, rulesX, smithsX, zLW, N2, K8, zLo, b9, N3, f8, D4, zLx, Rule.enc, List.map_cons, List.map_nil, List.length_cons, List.length_nil] at s1 s2 s3 s4 s5 s6 s7 s8 s9
 refine q7 func22 rfl (fun E hE => ?_); simp only [go_sem, ntmps22]
 repeat' (first | (refine Qr rfl ?_; try intro _ hK; try simp only [go_sem, *]) | (refine Qi rfl rfl rfl rfl ?_ ?_ <;> (intro hb; (try intro _ hK); have hc := hb; try simp only [go_sem] at hc; simp only [go_sem, *])) | refine Qh rfl ?_ | (refine Qc rfl rfl ?_ ?_ <;> (intro hb; have hc := hb; try simp only [go_sem] at hc)) | refine q6 rfl ?_ | (refine y1 (s1) ?_; simp only [go_sem, *]) | (refine r7 (s3) ?_; simp only [go_sem, *]) | (refine r7 (s5) ?_; simp only [go_sem, *]) | ((with_reducible apply And.intro); focus omega) | (refine z8 hK ?_; clear hK; simp only [go_sem, *]) | simp only [z7, z6, go_sem, *])
 refine c7 [] [0] s2 rfl (by simp only [go_sem]) (by simp) ?_ ?_ (by simp [go_sem]) (by simp [go_sem]) ?_
 ·simp only [go_sem, *]
 ·simp only [go_sem, *]
 simp only [go_sem, w3, *]
 repeat' (first | (refine Qr rfl ?_; try intro _ hK; try simp only [go_sem, *]) | (refine Qi rfl rfl rfl rfl ?_ ?_ <;> (intro hb; (try intro _ hK); have hc := hb; try simp only [go_sem] at hc; simp only [go_sem, *])) | refine Qh rfl ?_ | (refine Qc rfl rfl ?_ ?_ <;> (intro hb; have hc := hb; try simp only [go_sem] at hc)) | refine q6 rfl ?_ | (refine y1 (s1) ?_; simp only [go_sem, *]) | (refine r7 (s3) ?_; simp only [go_sem, *]) | (refine r7 (s5) ?_; simp only [go_sem, *]) | ((with_reducible apply And.intro); focus omega) | (refine z8 hK ?_; clear hK; simp only [go_sem, *]) | simp only [z7, z6, go_sem, *])
 refine c7 [] [2] s4 rfl (by simp only [go_sem]) (by simp) ?_ ?_ (by simp [go_sem]) (by simp [go_sem]) ?_
 ·simp only [go_sem, *]
 ·simp only [go_sem, *]
 simp only [go_sem, w3, *]
 repeat' (first | (refine Qr rfl ?_; try intro _ hK; try simp only [go_sem, *]) | (refine Qi rfl rfl rfl rfl ?_ ?_ <;> (intro hb; (try intro _ hK); have hc := hb; try simp only [go_sem] at hc; simp only [go_sem, *])) | refine Qh rfl ?_ | (refine Qc rfl rfl ?_ ?_ <;> (intro hb; have hc := hb; try simp only [go_sem] at hc)) | refine q6 rfl ?_ | (refine y1 (s1) ?_; simp only [go_sem, *]) | (refine r7 (s3) ?_; simp only [go_sem, *]) | (refine r7 (s5) ?_; simp only [go_sem, *]) | ((with_reducible apply And.intro); focus omega) | (refine z8 hK ?_; clear hK; simp only [go_sem, *]) | simp only [z7, z6, go_sem, *])
 refine c7 [] [3] s6 rfl (by simp only [go_sem]) (by simp) ?_ ?_ (by simp [go_sem]) (by simp [go_sem]) ?_
 ·simp only [go_sem, *]
 ·simp only [go_sem, *]
 simp only [go_sem, w3, *]
 repeat' (first | (refine Qr rfl ?_; try intro _ hK; try simp only [go_sem, *]) | (refine Qi rfl rfl rfl rfl ?_ ?_ <;> (intro hb; (try intro _ hK); have hc := hb; try simp only [go_sem] at hc; simp only [go_sem, *])) | refine Qh rfl ?_ | (refine Qc rfl rfl ?_ ?_ <;> (intro hb; have hc := hb; try simp only [go_sem] at hc)) | refine q6 rfl ?_ | (refine y1 (s1) ?_; simp only [go_sem, *]) | (refine r7 (s3) ?_; simp only [go_sem, *]) | (refine r7 (s5) ?_; simp only [go_sem, *]) | ((with_reducible apply And.intro); focus omega) | (refine z8 hK ?_; clear hK; simp only [go_sem, *]) | simp only [z7, z6, go_sem, *])
 refine c7 [] [4] s7 rfl (by simp only [go_sem]) (by simp) ?_ ?_ (by simp [go_sem]) (by simp [go_sem]) ?_
 ·simp only [go_sem, *]
 ·simp only [go_sem, *]
 simp only [go_sem, w3, *]
 repeat' (first | (refine Qr rfl ?_; try intro _ hK; try simp only [go_sem, *]) | (refine Qi rfl rfl rfl rfl ?_ ?_ <;> (intro hb; (try intro _ hK); have hc := hb; try simp only [go_sem] at hc; simp only [go_sem, *])) | refine Qh rfl ?_ | (refine Qc rfl rfl ?_ ?_ <;> (intro hb; have hc := hb; try simp only [go_sem] at hc)) | refine q6 rfl ?_ | (refine y1 (s1) ?_; simp only [go_sem, *]) | (refine r7 (s3) ?_; simp only [go_sem, *]) | (refine r7 (s5) ?_; simp only [go_sem, *]) | ((with_reducible apply And.intro); focus omega) | (refine z8 hK ?_; clear hK; simp only [go_sem, *]) | simp only [z7, z6, go_sem, *])
 refine c7 [] [1, 5] s8 rfl (by simp only [go_sem]) (by simp) ?_ ?_ (by simp [go_sem]) (by simp [go_sem]) ?_
 ·simp only [go_sem, *]; rfl
 ·simp only [go_sem, *]
 simp only [go_sem, w3, *]
 repeat' (first | (refine Qr rfl ?_; try intro _ hK; try simp only [go_sem, *]) | (refine Qi rfl rfl rfl rfl ?_ ?_ <;> (intro hb; (try intro _ hK); have hc := hb; try simp only [go_sem] at hc; simp only [go_sem, *])) | refine Qh rfl ?_ | (refine Qc rfl rfl ?_ ?_ <;> (intro hb; have hc := hb; try simp only [go_sem] at hc)) | refine q6 rfl ?_ | ((with_reducible apply And.intro); focus omega) | (refine z8 hK ?_; clear hK; simp only [go_sem, *]) | simp only [z7, z6, go_sem, *])
 refine c7 [] [6] s9 rfl (by simp only [go_sem]) (by simp) ?_ ?_ (by simp [go_sem]) (by simp [go_sem]) ?_
 ·simp only [go_sem, *]
 ·simp only [go_sem, *]
 simp only [go_sem, w3, *]
 repeat' (first | (refine Qr rfl ?_; try intro _ hK; try simp only [go_sem, *]) | (refine Qi rfl rfl rfl rfl ?_ ?_ <;> (intro hb; (try intro _ hK); have hc := hb; try simp only [go_sem] at hc; simp only [go_sem, *])) | refine Qh rfl ?_ | (refine Qc rfl rfl ?_ ?_ <;> (intro hb; have hc := hb; try simp only [go_sem] at hc)) | refine q6 rfl ?_ | ((with_reducible apply And.intro); focus omega) | (refine z8 hK ?_; clear hK; simp only [go_sem, *]) | simp only [z7, z6, go_sem, *])
 (refine ⟨[_], [], [], ⟨rfl, trivial⟩, ?_⟩; simp only [go_sem, *])
end Go.Abs

namespace Go.Abs
open Go Go.Proofs Tryz
structure Stop (p : Prop) : Prop where
 it : p
theorem zCC {P : Program} {E : Env} {b : Code} {Q : Exit → AS → Prop} {σ : AS} (p : List Nat) (h : Stop (Hold P E (sub p b) Q σ)) : Hold P E (sub p b) Q σ := h.it
theorem zBQ : ∀ {l : List Str}, (∀ s, s ∈ l → ValidN s) → v8 l = 0
 | [], _ => rfl
 | x :: r, h => by
  rw [v8, if_pos (checkN_zero.2 (h x (by simp))), zBQ (l := r) (fun s hs => h s (by simp [hs]))]
theorem zEw {l : List Str} (hv : ∀ s, s ∈ l → ValidN s) (h6 : l.length ≤ 6) : u3 l = 0 := by
 unfold u3
 rw [if_neg (by omega), zBQ hv]
theorem zEY {l : List Str} (hv : ∀ s, s ∈ l → ValidN s) (h6 : l.length ≤ 6) {k : Nat} (hk : k < l.length) : p5 l k = 0 := by
 unfold p5
 rw [if_pos (zEw hv h6), if_neg (by omega)]
theorem zBr {l : List Str} (hv : ∀ s, s ∈ l → ValidN s) (h6 : l.length ≤ 6) {k : Nat} (hk : k < l.length) :
  (∃ s, zKy l (zKs (l.getD k default)) 12 true = some s ∧ n0 l k = 0 ∧ j4 l k = s ++ [46]) ∨ (zKy l (zKs (l.getD k default)) 12 true = none ∧ n0 l k = 11 ∧ j4 l k = []) := by
 have hi := zEY hv h6 hk
 have e : w8 l (k : Int) = zKs (l.getD k default) := rfl
 unfold n0 j4
 rw [if_pos hi, if_pos hi, e]
 cases zKy l (zKs (l.getD k default)) 12 true with
 | none => exact .inr ⟨rfl, rfl, rfl⟩
 | some s => exact .inl ⟨s, rfl, rfl, rfl⟩
theorem zD8 {l : List Str} {z : Str} {k : Nat} (hk : k < l.length) : (l ++ [z]).getD k default = l.getD k default := by
 simp [List.getD, List.getElem?_append_left hk]
theorem zAf {l : List Str} {z : Str} : (l ++ [z]).getD l.length default = z := by simp [List.getD]
abbrev j6 (d : Dice) : Prop := d.list.length ≤ 4294967296
theorem zFC (d : Dice) (many most : Int) (h : j6 d) (hm : 0 ≤ many ∧ many ≤ 1000) (h1 : 1 ≤ most ∧ most ≤ 1000) : ∃ (l : List Str) (d' : Dice), zKq prog 24 [.ptr 0 0, iV many, iV most] [w5 d] (.own 1 1 0 l.length) [w5 d', .row 1 (l.map sV)] ∧
  (∀ s, s ∈ l → ValidN s) ∧ (l.length : Int) ≤ many ∧ j6 d' := by
 obtain ⟨a, b, c⟩ := zFB (d := d) hm.1 h1.1
 exact ⟨_, _, zGQ d many most h hm h1, fun s hs => (a s hs).1, b, by unfold j6; rw [c]; exact h⟩
theorem zBP (d : Dice) (most : Int) (h : j6 d) (h1 : 1 ≤ most ∧ most ≤ 1000) : ∃ (s : Str) (d' : Dice), zKq prog 25 [.ptr 0 0, iV most] [w5 d] (sV s) [w5 d'] ∧ ValidN s ∧ j6 d' := by
 obtain ⟨a, b, c⟩ := D5 (d := d) h1.1
 exact ⟨_, _, zBw d most h h1, a, by unfold j6; rw [c]; exact h⟩
theorem zHH (d : Dice) (n : Int) (h : j6 d) (hn : 0 ≤ n ∧ n ≤ 4294967296) : ∃ (k : Nat) (d' : Dice), zKq prog 26 [.ptr 0 0, iV n] [w5 d] (iV k) [w5 d'] ∧ (k : Int) ≤ n ∧ j6 d' := by
 have hle := i6 hn.1 d
 obtain ⟨k, hk⟩ : ∃ k : Nat, toN n d = k := ⟨_, (Int.toNat_of_nonneg hle.1).symm⟩
 refine ⟨k, toD n d, ?_, by omega, by unfold j6; rw [u7]; exact h⟩
 have := Q5 d n h hn.2
 rwa [hk] at this
theorem zFH (d : Dice) (n : Int) (h : j6 d) (hn : 0 ≤ n ∧ n ≤ 4294967296) : ∃ (t : Bool) (d' : Dice), zKq prog 34 [.ptr 0 0, iV n] [w5 d] (bV t) [w5 d'] ∧ j6 d' :=
 ⟨_, _, I9 d n h hn, by unfold j6 x8; rw [u7]; exact h⟩
theorem zDL (l : List Int) (h : l.length ≤ 4294967296) : ∃ d : Dice, zKq prog 23 [Y6 l] [] (.ptr 0 0) [w5 d] ∧ j6 d := ⟨_, zGR l, h⟩
theorem K7 {l : List Str} {x : Str} (hv : ∀ s, s ∈ l → ValidN s) (v : ValidN x) : ∃ m : List Str, l.map sV ++ [sV x] = m.map sV ∧ m.length = l.length + 1 ∧ (∀ s, s ∈ m → ValidN s) ∧ m = l ++ [x] :=
 ⟨l ++ [x], by simp, by simp, fun s hs => by
  rcases List.mem_append.1 hs with hs | hs
  ·exact hv s hs
  ·rw [List.mem_singleton.1 hs]; exact v, rfl⟩
theorem zCs (ex : List Nat) {P : Program} {f : FuncId} {avs : List AV} {H : Nat → AObj} {nx : Nat} {K : Cont} {args : List AV} {n : Nat} {l : List Str} (sp : zKq P f args [] (.own 0 1 0 n) [.row 1 (l.map sV)]) (h : XpL H [] ex args avs) (hu : H nx = .unb)
  (hk : K ((AV.own 0 1 0 n).ren (y7 [] nx)) (ex ++ j1 [] nx [.row 1 (l.map sV)]) (v7 [] nx [.row 1 (l.map sV)])) : y3 P f avs H nx K :=
 w9 [] ex sp (by simp) h trivial (by simp) (.inr ⟨.own _ _ _ _, fun A hA => by
  rw [List.mem_singleton.1 hA]
  intro x hx c hc
  obtain ⟨s, _, rfl⟩ := List.mem_map.1 hx
  have hc : c ∈ [sV s] := hc
  rw [List.mem_singleton.1 hc]; exact .raw _⟩) (fun j hj => by
  have : j = 0 := by simp at hj; omega
  subst this; exact hu) (fun A hA => by rw [List.mem_singleton.1 hA]; exact fun e => by cases e) (by simpa using hk)
end Go.Abs

namespace Go.Abs
open Go Go.Proofs Tryz
attribute [local irreducible] q9 Hold y3
def H2 (l M : List Str) (k : Nat) (z : Str) : Prop :=
 (n0 l k = 11 ∧ n0 M k = 11) ∨ (n0 l k = 0 ∧ n0 M k = 11 ∧ ¬ z = l.getD k default) ∨
  (n0 l k = 0 ∧ n0 M k = 0 ∧ (j4 l k).length ≤ (j4 M k).length ∧ (z = l.getD k default → j4 l k = j4 M k))
theorem zBC {l : List Str} (hv : ∀ s, s ∈ l → ValidN s) (h5 : l.length ≤ 5) {k : Nat} (hk : k < l.length) {z : Str} (vz : ValidN z) : H2 l (l ++ [z]) k z := by
 have hv2 : ∀ s, s ∈ l ++ [z] → ValidN s := fun s hs => by
  rcases List.mem_append.1 hs with hs | hs
  ·exact hv s hs
  ·rw [List.mem_singleton.1 hs]; exact vz
 have c1 := zBr hv (by omega) hk
 have c2 := zBr hv2 (by simp; omega) (k := k) (by simp; omega)
 rw [zD8 hk] at c2
 rcases c1 with ⟨s, h1, h2, h3⟩ | ⟨h1, h2, h3⟩
 ·rcases c2 with ⟨t, g1, g2, g3⟩ | ⟨g1, g2, g3⟩
  ·refine .inr (.inr ⟨h2, g2, ?_, fun e => ?_⟩)
   ·rw [h3, g3]
    have := zDI h1 g1
    simp; omega
   ·have := zAI (l := l) (most := 12) (up := true) (own := zKs (l.getD k default)) (x := z) (by rw [e])
    rw [g1, h1] at this
    rw [h3, g3, Option.some.inj this]
  ·refine .inr (.inl ⟨h2, g2, fun e => ?_⟩)
   have := zAI (l := l) (most := 12) (up := true) (own := zKs (l.getD k default)) (x := z) (by rw [e])
   rw [g1, h1] at this
   cases this
 ·have g := zDJ (x := z) h1
  rcases c2 with ⟨t, g1, g2, g3⟩ | ⟨g1, g2, g3⟩
  ·rw [g] at g1; cases g1
  ·exact .inl ⟨h2, g2⟩
theorem zKe (nums : List Int) (h : nums.length ≤ 4294967296) : zKq prog 4 [Y6 nums] [] (bV true) [] := by
 obtain ⟨d0, s0, hd0⟩ := zDL nums h
 obtain ⟨l0, d1, s1, v0, hl0, hd1⟩ := zFC d0 4 5 hd0 (by omega) (by omega)
 obtain ⟨x, d2, s2, vx, hd2⟩ := zBP d1 5 hd1 (by omega)
 obtain ⟨l, hmap, hll, hvl, -⟩ := K7 v0 vx
 obtain ⟨k, d3, s3, hk, hd3⟩ := zHH d2 (l0.length : Int) hd2 (by omega)
 have hkl : k < l.length := by omega
 have s4 := zGH l (by omega)
 obtain ⟨y, d4, s5, vy, hd4⟩ := zBP d3 5 hd3 (by omega)
 obtain ⟨t, d5, s6, hd5⟩ := zFH d4 4 hd4 (by omega)
 clear v0 vx hd0 hd1 hd2 hd3 hd4 hd5 h
 have hkl0 : k < l0.length + 1 := by omega
 have htk : List.take (l0.length + 1) (List.map sV l) = List.map sV l := List.take_of_length_le (by simp; omega)
 have hw0 : IntKind.i64.wrap (((l0.length + 1 : Nat) : Int) - 1) = (l0.length : Int) := by rw [wrap_i64 (by omega) (by omega)]; omega
 have sS := zG3
 refine q7 func4 rfl (fun E hE => ?_); simp only [go_sem, ntmps4]
 repeat' (first | (refine Qr rfl ?_; try intro _ hK; try simp only [go_sem, *]) | (refine Qi rfl rfl rfl rfl ?_ ?_ <;> (intro hb; (try intro _ hK); have hc := hb; try simp only [go_sem] at hc; simp only [go_sem, *])) | refine Qh rfl ?_ | refine Qd rfl (by kernel_rfl) ?_ | (refine Qc rfl rfl ?_ ?_ <;> (intro hb; have hc := hb; try simp only [go_sem] at hc)) | refine q6 rfl ?_ | (refine Qb ?_ ?_; focus kernel_rfl) | (refine r7 (s0) ?_; simp only [go_sem, *]) | ((with_reducible apply And.intro); focus omega) | (refine z8 hK ?_; clear hK; simp only [go_sem, *]) | simp only [z7, z6, go_sem, *])
 refine x4 [0] s1 ?_
 simp only [go_sem, *]
 repeat' (first | (refine Qr rfl ?_; try intro _ hK; try simp only [go_sem, *]) | (refine Qi rfl rfl rfl rfl ?_ ?_ <;> (intro hb; (try intro _ hK); have hc := hb; try simp only [go_sem] at hc; simp only [go_sem, *])) | refine Qh rfl ?_ | refine Qd rfl (by kernel_rfl) ?_ | (refine Qc rfl rfl ?_ ?_ <;> (intro hb; have hc := hb; try simp only [go_sem] at hc)) | refine q6 rfl ?_ | (refine Qb ?_ ?_; focus kernel_rfl) | ((with_reducible apply And.intro); focus omega) | (refine z8 hK ?_; clear hK; simp only [go_sem, *]) | simp only [z7, z6, go_sem, *])
 refine x4 [0] s2 ?_
 simp only [go_sem, *]
 repeat' (first | (refine Qr rfl ?_; try intro _ hK; try simp only [go_sem, *]) | (refine Qi rfl rfl rfl rfl ?_ ?_ <;> (intro hb; (try intro _ hK); have hc := hb; try simp only [go_sem] at hc; simp only [go_sem, *])) | refine Qh rfl ?_ | refine Qd rfl (by kernel_rfl) ?_ | (refine Qc rfl rfl ?_ ?_ <;> (intro hb; have hc := hb; try simp only [go_sem] at hc)) | refine q6 rfl ?_ | (refine Qb ?_ ?_; focus kernel_rfl) | ((with_reducible apply And.intro); focus omega) | (refine z8 hK ?_; clear hK; simp only [go_sem, *]) | simp only [z7, z6, go_sem, *])
 refine x4 [0] s3 ?_
 simp only [go_sem, *]
 repeat' (first | (refine Qr rfl ?_; try intro _ hK; try simp only [go_sem, *]) | (refine Qi rfl rfl rfl rfl ?_ ?_ <;> (intro hb; (try intro _ hK); have hc := hb; try simp only [go_sem] at hc; simp only [go_sem, *])) | refine Qh rfl ?_ | refine Qd rfl (by kernel_rfl) ?_ | (refine Qc rfl rfl ?_ ?_ <;> (intro hb; have hc := hb; try simp only [go_sem] at hc)) | refine q6 rfl ?_ | (refine Qb ?_ ?_; focus kernel_rfl) | ((with_reducible apply And.intro); focus omega) | (refine z8 hK ?_; clear hK; simp only [go_sem, *]) | simp only [z7, z6, go_sem, *])
 refine zCs [3] s4 (by simp only [go_sem, *]) (by simp only [go_sem, *]) ?_
 simp only [go_sem, *]
 repeat' (first | (refine Qr rfl ?_; try intro _ hK; try simp only [go_sem, *]) | (refine Qi rfl rfl rfl rfl ?_ ?_ <;> (intro hb; (try intro _ hK); have hc := hb; try simp only [go_sem] at hc; simp only [go_sem, *])) | refine Qh rfl ?_ | refine Qd rfl (by kernel_rfl) ?_ | (refine Qc rfl rfl ?_ ?_ <;> (intro hb; have hc := hb; try simp only [go_sem] at hc)) | refine q6 rfl ?_ | (refine Qb ?_ ?_; focus kernel_rfl) | ((with_reducible apply And.intro); focus omega) | (refine z8 hK ?_; clear hK; simp only [go_sem, *]) | simp only [z7, z6, go_sem, *])
 refine x4 [0] s5 ?_
 simp only [go_sem, *]
 repeat' (first | (refine Qr rfl ?_; try intro _ hK; try simp only [go_sem, *]) | (refine Qi rfl rfl rfl rfl ?_ ?_ <;> (intro hb; (try intro _ hK); have hc := hb; try simp only [go_sem] at hc; simp only [go_sem, *])) | refine Qh rfl ?_ | refine Qd rfl (by kernel_rfl) ?_ | (refine Qc rfl rfl ?_ ?_ <;> (intro hb; have hc := hb; try simp only [go_sem] at hc)) | refine q6 rfl ?_ | (refine Qb ?_ ?_; focus kernel_rfl) | ((with_reducible apply And.intro); focus omega) | (refine z8 hK ?_; clear hK; simp only [go_sem, *]) | simp only [z7, z6, go_sem, *])
 refine x4 [0] s6 ?_
 simp only [go_sem, *]
 cases t
 ·repeat' (first | ((with_reducible refine zCC [0, 1, 1, 1, 1, 1, 1] ?_)) | (refine Qr rfl ?_; try intro _ hK; try simp only [go_sem, *]) | (refine Qi rfl rfl rfl rfl ?_ ?_ <;> (intro hb; (try intro _ hK); have hc := hb; try simp only [go_sem] at hc; simp only [go_sem, *])) | refine Qh rfl ?_ | refine Qd rfl (by kernel_rfl) ?_ | (refine Qc rfl rfl ?_ ?_ <;> (intro hb; have hc := hb; try simp only [go_sem] at hc)) | refine q6 rfl ?_ | (refine Qb ?_ ?_; focus kernel_rfl) | ((with_reducible apply And.intro); focus omega) | (refine z8 hK ?_; clear hK; simp only [go_sem, *]) | simp only [z7, z6, go_sem, *])
  all_goals try contradiction
  obtain ⟨M, hM, hMl, hvM, hMe⟩ := K7 hvl vy
  have hOK := zBC hvl (by omega) hkl vy
  rw [← hMe] at hOK
  have hMz : M.getD (l0.length + 1) default = y := by rw [hMe, ← hll]; exact zAf
  have htM : List.take (l0.length + 1 + 1) (List.map sV M) = List.map sV M := List.take_of_length_le (by simp; omega)
  clear hMe hvM
  refine ⟨?_⟩
  refine Z7 (N := 101) (env := [(5, iV k), (4, y2 l), (6, y2 M)]) (As := []) [] [3, 6] (by (simp only [Weak, go_sem, List.map_append, List.map_set, *] <;> (try simp (disch := omega) only [u9]) <;> (try simp) <;> (try omega))) ?_
  obtain ⟨z, hzz⟩ : ∃ z, z = y := ⟨y, rfl⟩
  rw [← hzz] at hOK hMz
  clear hzz hM htM
  have hMl2 : M.length ≤ 1000 := by omega
  have sA := M6 l k (by omega)
  have sB := M6 M k (by omega)
  have hkM : k < l0.length + 1 + 1 := by omega
  have hle1 : l0.length + 1 < l0.length + 1 + 1 := by omega
  clear s1 s2 s3 s4 s5 s6 hvl hl0
  unfold H2 at hOK
  generalize j4 l k = a at *
  generalize n0 l k = e at *
  generalize j4 M k = b at *
  generalize n0 M k = f at *
  rcases hOK with ⟨h1, h2⟩ | ⟨h1, h2, h3⟩ | ⟨h1, h2, h3, h4⟩
  ·subst h1 h2
   repeat' (first | (refine Qr rfl ?_; try intro _ hK; try simp only [go_sem, *]) | (refine Qi rfl rfl rfl rfl ?_ ?_ <;> (intro hb; (try intro _ hK); have hc := hb; try simp only [go_sem] at hc; simp only [go_sem, *])) | refine Qh rfl ?_ | refine Qd rfl (by kernel_rfl) ?_ | (refine Qc rfl rfl ?_ ?_ <;> (intro hb; have hc := hb; try simp only [go_sem] at hc)) | refine q6 rfl ?_ | (refine Qb ?_ ?_; focus kernel_rfl) | (refine y5 (sA) ?_ ?_; (focus (simp only [go_sem, *]; done)); simp only [go_sem, *]) | (refine y5 (sB) ?_ ?_; (focus (simp only [go_sem, *]; done)); simp only [go_sem, *]) | (refine y5 (sS) ?_ ?_; (focus (simp only [go_sem, *]; done)); simp only [go_sem, *]) | ((with_reducible apply And.intro); focus omega) | (refine z8 hK ?_; clear hK; simp only [go_sem, *]) | simp only [z7, z6, go_sem, *])
   all_goals try contradiction
   (refine ⟨[_], [], [], ⟨rfl, trivial⟩, ?_⟩; simp only [go_sem, *])
  ·subst h1 h2
   repeat' (first | (refine Qr rfl ?_; try intro _ hK; try simp only [go_sem, *]) | (refine Qi rfl rfl rfl rfl ?_ ?_ <;> (intro hb; (try intro _ hK); have hc := hb; try simp only [go_sem] at hc; simp only [go_sem, *])) | refine Qh rfl ?_ | refine Qd rfl (by kernel_rfl) ?_ | (refine Qc rfl rfl ?_ ?_ <;> (intro hb; have hc := hb; try simp only [go_sem] at hc)) | refine q6 rfl ?_ | (refine Qb ?_ ?_; focus kernel_rfl) | (refine y5 (sA) ?_ ?_; (focus (simp only [go_sem, *]; done)); simp only [go_sem, *]) | (refine y5 (sB) ?_ ?_; (focus (simp only [go_sem, *]; done)); simp only [go_sem, *]) | (refine y5 (sS) ?_ ?_; (focus (simp only [go_sem, *]; done)); simp only [go_sem, *]) | ((with_reducible apply And.intro); focus omega) | (refine z8 hK ?_; clear hK; simp only [go_sem, *]) | simp only [z7, z6, go_sem, *])
   all_goals try contradiction
   (refine ⟨[_], [], [], ⟨rfl, trivial⟩, ?_⟩; simp only [go_sem, *])
  ·subst h1 h2
   by_cases hz : z = l.getD k default
   ·have h5 := h4 hz
    subst h5
    clear h4 h3
    have hge : (a.length : Int) ≥ (a.length : Int) := by omega
    repeat' (first | (refine Qr rfl ?_; try intro _ hK; try simp only [go_sem, *]) | (refine Qi rfl rfl rfl rfl ?_ ?_ <;> (intro hb; (try intro _ hK); have hc := hb; try simp only [go_sem] at hc; simp only [go_sem, *])) | refine Qh rfl ?_ | refine Qd rfl (by kernel_rfl) ?_ | (refine Qc rfl rfl ?_ ?_ <;> (intro hb; have hc := hb; try simp only [go_sem] at hc)) | refine q6 rfl ?_ | (refine Qb ?_ ?_; focus kernel_rfl) | (refine y5 (sA) ?_ ?_; (focus (simp only [go_sem, *]; done)); simp only [go_sem, *]) | (refine y5 (sB) ?_ ?_; (focus (simp only [go_sem, *]; done)); simp only [go_sem, *]) | (refine y5 (sS) ?_ ?_; (focus (simp only [go_sem, *]; done)); simp only [go_sem, *]) | ((with_reducible apply And.intro); focus omega) | (refine z8 hK ?_; clear hK; simp only [go_sem, *]) | simp only [z7, z6, go_sem, *])
    all_goals try contradiction
    (refine ⟨[_], [], [], ⟨rfl, trivial⟩, ?_⟩; simp only [go_sem, *])
   ·clear h4
    have hge : (b.length : Int) ≥ (a.length : Int) := by omega
    repeat' (first | (refine Qr rfl ?_; try intro _ hK; try simp only [go_sem, *]) | (refine Qi rfl rfl rfl rfl ?_ ?_ <;> (intro hb; (try intro _ hK); have hc := hb; try simp only [go_sem] at hc; simp only [go_sem, *])) | refine Qh rfl ?_ | refine Qd rfl (by kernel_rfl) ?_ | (refine Qc rfl rfl ?_ ?_ <;> (intro hb; have hc := hb; try simp only [go_sem] at hc)) | refine q6 rfl ?_ | (refine Qb ?_ ?_; focus kernel_rfl) | (refine y5 (sA) ?_ ?_; (focus (simp only [go_sem, *]; done)); simp only [go_sem, *]) | (refine y5 (sB) ?_ ?_; (focus (simp only [go_sem, *]; done)); simp only [go_sem, *]) | (refine y5 (sS) ?_ ?_; (focus (simp only [go_sem, *]; done)); simp only [go_sem, *]) | ((with_reducible apply And.intro); focus omega) | (refine z8 hK ?_; clear hK; simp only [go_sem, *]) | simp only [z7, z6, go_sem, *])
    all_goals try contradiction
    (refine ⟨[_], [], [], ⟨rfl, trivial⟩, ?_⟩; simp only [go_sem, *])
 ·repeat' (first | ((with_reducible refine zCC [0, 1, 1, 1, 1, 1, 1] ?_)) | (refine Qr rfl ?_; try intro _ hK; try simp only [go_sem, *]) | (refine Qi rfl rfl rfl rfl ?_ ?_ <;> (intro hb; (try intro _ hK); have hc := hb; try simp only [go_sem] at hc; simp only [go_sem, *])) | refine Qh rfl ?_ | refine Qd rfl (by kernel_rfl) ?_ | (refine Qc rfl rfl ?_ ?_ <;> (intro hb; have hc := hb; try simp only [go_sem] at hc)) | refine q6 rfl ?_ | (refine Qb ?_ ?_; focus kernel_rfl) | ((with_reducible apply And.intro); focus omega) | (refine z8 hK ?_; clear hK; simp only [go_sem, *]) | simp only [z7, z6, go_sem, *])
  all_goals try contradiction
  obtain ⟨M0, hM0, hMl0, _, hMe0⟩ := K7 hvl vy
  have vz : ValidN (l.getD k default) := hvl _ (l9 hkl)
  obtain ⟨M, hM, hMl, hvM, hMe⟩ := K7 hvl vz
  have hOK := zBC hvl (by omega) hkl vz
  rw [← hMe] at hOK
  have hMz : M.getD (l0.length + 1) default = l.getD k default := by rw [hMe, ← hll]; exact zAf
  have hset : (List.map sV M0).set (l0.length + 1) (sV (l.getD k default)) = List.map sV M := by
   rw [hMe, hMe0, ← hll, List.map_append, List.set_append_right _ _ (by simp)]; simp
  have htM : List.take (l0.length + 1 + 1) (List.map sV M) = List.map sV M := List.take_of_length_le (by simp; omega)
  clear hMe hMe0 hvM
  refine ⟨?_⟩
  refine Z7 (N := 101) (env := [(5, iV k), (4, y2 l), (6, y2 M)]) (As := []) [] [3, 6] (by (simp only [Weak, go_sem, List.map_append, List.map_set, *] <;> (try simp (disch := omega) only [u9]) <;> (try simp) <;> (try omega))) ?_
  obtain ⟨z, hzz⟩ : ∃ z, z = l.getD k default := ⟨_, rfl⟩
  rw [← hzz] at hMz
  rw [← hzz] at hOK
  clear hzz hM htM hset hM0 hMl0
  have hMl2 : M.length ≤ 1000 := by omega
  have sA := M6 l k (by omega)
  have sB := M6 M k (by omega)
  have hkM : k < l0.length + 1 + 1 := by omega
  have hle1 : l0.length + 1 < l0.length + 1 + 1 := by omega
  clear s1 s2 s3 s4 s5 s6 hvl hl0
  unfold H2 at hOK
  generalize j4 l k = a at *
  generalize n0 l k = e at *
  generalize j4 M k = b at *
  generalize n0 M k = f at *
  rcases hOK with ⟨h1, h2⟩ | ⟨h1, h2, h3⟩ | ⟨h1, h2, h3, h4⟩
  ·subst h1 h2
   repeat' (first | (refine Qr rfl ?_; try intro _ hK; try simp only [go_sem, *]) | (refine Qi rfl rfl rfl rfl ?_ ?_ <;> (intro hb; (try intro _ hK); have hc := hb; try simp only [go_sem] at hc; simp only [go_sem, *])) | refine Qh rfl ?_ | refine Qd rfl (by kernel_rfl) ?_ | (refine Qc rfl rfl ?_ ?_ <;> (intro hb; have hc := hb; try simp only [go_sem] at hc)) | refine q6 rfl ?_ | (refine Qb ?_ ?_; focus kernel_rfl) | (refine y5 (sA) ?_ ?_; (focus (simp only [go_sem, *]; done)); simp only [go_sem, *]) | (refine y5 (sB) ?_ ?_; (focus (simp only [go_sem, *]; done)); simp only [go_sem, *]) | (refine y5 (sS) ?_ ?_; (focus (simp only [go_sem, *]; done)); simp only [go_sem, *]) | ((with_reducible apply And.intro); focus omega) | (refine z8 hK ?_; clear hK; simp only [go_sem, *]) | simp only [z7, z6, go_sem, *])
   all_goals try contradiction
   (refine ⟨[_], [], [], ⟨rfl, trivial⟩, ?_⟩; simp only [go_sem, *])
  ·subst h1 h2
   repeat' (first | (refine Qr rfl ?_; try intro _ hK; try simp only [go_sem, *]) | (refine Qi rfl rfl rfl rfl ?_ ?_ <;> (intro hb; (try intro _ hK); have hc := hb; try simp only [go_sem] at hc; simp only [go_sem, *])) | refine Qh rfl ?_ | refine Qd rfl (by kernel_rfl) ?_ | (refine Qc rfl rfl ?_ ?_ <;> (intro hb; have hc := hb; try simp only [go_sem] at hc)) | refine q6 rfl ?_ | (refine Qb ?_ ?_; focus kernel_rfl) | (refine y5 (sA) ?_ ?_; (focus (simp only [go_sem, *]; done)); simp only [go_sem, *]) | (refine y5 (sB) ?_ ?_; (focus (simp only [go_sem, *]; done)); simp only [go_sem, *]) | (refine y5 (sS) ?_ ?_; (focus (simp only [go_sem, *]; done)); simp only [go_sem, *]) | ((with_reducible apply And.intro); focus omega) | (refine z8 hK ?_; clear hK; simp only [go_sem, *]) | simp only [z7, z6, go_sem, *])
   all_goals try contradiction
   (refine ⟨[_], [], [], ⟨rfl, trivial⟩, ?_⟩; simp only [go_sem, *])
  ·subst h1 h2
   by_cases hz : z = l.getD k default
   ·have h5 := h4 hz
    subst h5
    clear h4 h3
    have hge : (a.length : Int) ≥ (a.length : Int) := by omega
    repeat' (first | (refine Qr rfl ?_; try intro _ hK; try simp only [go_sem, *]) | (refine Qi rfl rfl rfl rfl ?_ ?_ <;> (intro hb; (try intro _ hK); have hc := hb; try simp only [go_sem] at hc; simp only [go_sem, *])) | refine Qh rfl ?_ | refine Qd rfl (by kernel_rfl) ?_ | (refine Qc rfl rfl ?_ ?_ <;> (intro hb; have hc := hb; try simp only [go_sem] at hc)) | refine q6 rfl ?_ | (refine Qb ?_ ?_; focus kernel_rfl) | (refine y5 (sA) ?_ ?_; (focus (simp only [go_sem, *]; done)); simp only [go_sem, *]) | (refine y5 (sB) ?_ ?_; (focus (simp only [go_sem, *]; done)); simp only [go_sem, *]) | (refine y5 (sS) ?_ ?_; (focus (simp only [go_sem, *]; done)); simp only [go_sem, *]) | ((with_reducible apply And.intro); focus omega) | (refine z8 hK ?_; clear hK; simp only [go_sem, *]) | simp only [z7, z6, go_sem, *])
    all_goals try contradiction
    (refine ⟨[_], [], [], ⟨rfl, trivial⟩, ?_⟩; simp only [go_sem, *])
   ·clear h4
    have hge : (b.length : Int) ≥ (a.length : Int) := by omega
    repeat' (first | (refine Qr rfl ?_; try intro _ hK; try simp only [go_sem, *]) | (refine Qi rfl rfl rfl rfl ?_ ?_ <;> (intro hb; (try intro _ hK); have hc := hb; try simp only [go_sem] at hc; simp only [go_sem, *])) | refine Qh rfl ?_ | refine Qd rfl (by kernel_rfl) ?_ | (refine Qc rfl rfl ?_ ?_ <;> (intro hb; have hc := hb; try simp only [go_sem] at hc)) | refine q6 rfl ?_ | (refine Qb ?_ ?_; focus kernel_rfl) | (refine y5 (sA) ?_ ?_; (focus (simp only [go_sem, *]; done)); simp only [go_sem, *]) | (refine y5 (sB) ?_ ?_; (focus (simp only [go_sem, *]; done)); simp only [go_sem, *]) | (refine y5 (sS) ?_ ?_; (focus (simp only [go_sem, *]; done)); simp only [go_sem, *]) | ((with_reducible apply And.intro); focus omega) | (refine z8 hK ?_; clear hK; simp only [go_sem, *]) | simp only [z7, z6, go_sem, *])
    all_goals try contradiction
    (refine ⟨[_], [], [], ⟨rfl, trivial⟩, ?_⟩; simp only [go_sem, *])
end Go.Abs

