/-
  WHAT THE PROOF STANDS ON, PART 5: contracts of the program's functions and the logic that they are proved in. No condition.
-/
import Derived.Test.YtmhleaopjcfjnaaGreatQ4
set_option maxRecDepth 100000
set_option maxHeartbeats 4000000
set_option linter.unusedVariables false
set_option linter.unusedSimpArgs false
set_option linter.unusedSectionVars false
namespace Go.Abs
open Go
def suf (s : Story) : Nat → Nat → List (List Int)
 | 0, _ => [[]]
 | n + 1, k => (List.range' 0 (w9 s k).length).flatMap fun (i : Nat) => (suf s n (k + 1)).map fun r => (i : Int) :: r
def zRk (s : Story) (n k i : Nat) : List (List Int) := (List.range' i ((w9 s k).length - i)).flatMap fun (i : Nat) => (suf s n (k + 1)).map fun r => (i : Int) :: r
theorem zOg {α β : Type} {f : α → List β} {N : Nat} : ∀ {l : List α}, (∀ a, a ∈ l → (f a).length ≤ N) → (l.flatMap f).length ≤ l.length * N
 | [], _ => by simp
 | a :: r, h => by
  have h1 := h a (by simp)
  have h2 := zOg (l := r) (fun b hb => h b (by simp [hb]))
  rw [List.flatMap_cons, List.length_append, List.length_cons, Nat.succ_mul]; omega
theorem zOL {s : Story} : ∀ n k w, w ∈ suf s n k → w.length = n ∧ ∀ j, j < n → 0 ≤ w.getD j 0 ∧ w.getD j 0 < (w9 s (k + j)).length
 | 0, k, w, h => by
  rw [suf] at h
  rw [List.mem_singleton.1 h]
  exact ⟨rfl, fun j hj => by omega⟩
 | n + 1, k, w, h => by
  rw [suf] at h
  obtain ⟨i, hi, h⟩ := List.mem_flatMap.1 h
  obtain ⟨r, hr, rfl⟩ := List.mem_map.1 h
  obtain ⟨h1, h2⟩ := zOL n (k + 1) r hr
  have hi2 := List.mem_range'.1 hi
  obtain ⟨z, hz, rfl⟩ := hi2
  refine ⟨by simp [h1], fun j hj => ?_⟩
  cases j with
  | zero => simp; omega
  | succ j =>
   have := h2 j (by omega)
   rw [show k + (j + 1) = k + 1 + j by omega]
   simpa using this
def zRr (s : Story) (t : Truth) (i : Int) : Change := (w9 s t.ways.length).getD i.toNat default
def zRo (s : Story) : List Int → Truth → Option Truth
 | [], t => some t
 | i :: r, t => if can t.fin (zRr s t i) = 0 then zRo s r (n0 t (zRr s t i) i.toNat) else none
theorem zOw {s : Story} {i : Int} {r : List Int} {t : Truth} (h : can t.fin (zRr s t i) = 0) : zRo s (i :: r) t = zRo s r (n0 t (zRr s t i) i.toNat) := by rw [zRo, if_pos h]
theorem zOv {s : Story} {i : Int} {r : List Int} {t : Truth} (h : ¬ can t.fin (zRr s t i) = 0) : zRo s (i :: r) t = none := by rw [zRo, if_neg h]
theorem zPN (t : Truth) (c : Change) (i : Nat) : (n0 t c i).ways.length = t.ways.length + 1 := by simp [n0]
theorem zOj {s : Story} : ∀ (n : Nat) (t : Truth), l4 s n t = (suf s n t.ways.length).filterMap fun w => zRo s w t
 | 0, t => by simp [l4, suf, zRo]
 | n + 1, t => by
  rw [l4, suf]
  generalize List.range' 0 (w9 s t.ways.length).length = L
  induction L with
  | nil => rfl
  | cons i r ih =>
   rw [List.flatMap_cons, List.flatMap_cons, List.filterMap_append, ih]
   congr 1
   rw [List.filterMap_map]
   have hc : zRr s t (i : Int) = (w9 s t.ways.length).getD i default := rfl
   split
   ·rename_i h
    rw [zOj n, zPN]
    refine congrFun (congrArg _ (funext fun w => ?_)) _
    exact (zOw (i := (i : Int)) (r := w) (t := t) (by rw [hc]; exact h)).symm
   ·rename_i h
    symm
    rw [List.filterMap_eq_nil_iff]
    intro w _
    exact zOv (i := (i : Int)) (r := w) (t := t) (by rw [hc]; exact h)
theorem zOx {s : Story} : ∀ {w : List Int} {t x : Truth}, (∀ i, i ∈ w → 0 ≤ i) → zRo s w t = some x → x.ways = t.ways ++ w
 | [], t, x, _, h => by
  rw [zRo] at h
  cases h; simp
 | i :: r, t, x, hw, h => by
  rw [zRo] at h
  split at h
  ·have e := zOx (fun j hj => hw j (by simp [hj])) h
   have hi := hw i (by simp)
   rw [e]
   simp only [n0, List.append_assoc, List.singleton_append]
   rw [Int.toNat_of_nonneg hi]
  ·cases h
def zRa (s : Story) (w : List Int) : Bool := match zRo s w (Y8 s) with
 | some t => f7 s.facts t
 | none => false
def zOZ (s : Story) : List (List Int) := suf s s.steps.length 0
theorem zQL {s : Story} {n k : Nat} {w : List Int} (h : w ∈ suf s n k) : ∀ i, i ∈ w → 0 ≤ i := fun i hi => by
 obtain ⟨h1, h2⟩ := zOL n k w h
 obtain ⟨j, hj, rfl⟩ := List.getElem_of_mem hi
 have := (h2 j (by omega)).1
 simpa [List.getD, hj] using this
theorem zNj {s : Story} {t : Truth} (h : t ∈ r5 s) : t.ways ∈ zOZ s ∧ zRo s t.ways (Y8 s) = some t := by
 rw [← zI4] at h
 have h1 := (List.mem_filter.1 h).1
 unfold B3 at h1
 rw [zOj] at h1
 obtain ⟨w, hw, e⟩ := List.mem_filterMap.1 h1
 have ew := zOx (zQL hw) e
 have ew2 : t.ways = w := by rw [ew]; rfl
 rw [ew2]
 exact ⟨hw, e⟩
end Go.Abs

namespace Go.Abs
open Go
def zNC (x y : Truth) (hs : List House) : Bool := hs.all fun h => decide (x.now h = y.now h)
def okT (l : List Truth) (hs some : List House) (a b : Nat) : Bool := !zNC (l.getD a default) (l.getD b default) some || zNC (l.getD a default) (l.getD b default) hs
def zNA (l : List Truth) (hs some : List House) : Bool := (List.range l.length).all fun a => (List.range a).all fun b => okT l hs some a b
theorem settlesT_iff {l : List Truth} {hs some : List House} : zNA l hs some = true ↔ ∀ a, a < l.length → ∀ b, b < a → okT l hs some a b = true := by
 simp only [zNA, List.all_eq_true, List.mem_range]
theorem zO3 (l : List Truth) (hs : List House) : zNA l hs hs = true := by
 rw [settlesT_iff]
 intro a _ b _
 unfold okT
 cases zNC (l.getD a default) (l.getD b default) hs <;> rfl
def zM7 (n : Nat) : Nat → Nat → List (List Int)
 | 0, _ => [[]]
 | _ + 1, 0 => []
 | m + 1, r + 1 => (zM7 n m r).map (fun l => (((n - (r + 1) : Nat) : Int)) :: l) ++ zM7 n (m + 1) r
theorem zNt (n r : Nat) : zM7 n 0 r = [[]] := by cases r <;> rfl
theorem zNs (n : Nat) : ∀ (r m : Nat), r < m → zM7 n m r = []
 | 0, 0, h => by omega
 | 0, m + 1, _ => rfl
 | r + 1, 0, h => by omega
 | r + 1, m + 1, h => by
  rw [zM7, zNs n r m (by omega), zNs n r (m + 1) (by omega)]
  rfl
theorem zNi (n : Nat) : ∀ (r m : Nat) (l : List Int), r ≤ n → l ∈ zM7 n m r → l.length = m ∧ ∀ k, k ∈ l → 0 ≤ k ∧ k < n
 | r, 0, l, _, h => by
  rw [zNt] at h
  rw [List.mem_singleton.1 h]
  exact ⟨rfl, fun k hk => by cases hk⟩
 | 0, m + 1, l, _, h => by cases h
 | r + 1, m + 1, l, hr, h => by
  rw [zM7] at h
  rcases List.mem_append.1 h with h | h
  ·obtain ⟨q, hq, rfl⟩ := List.mem_map.1 h
   obtain ⟨h1, h2⟩ := zNi n r m q (by omega) hq
   refine ⟨by simp [h1], fun k hk => ?_⟩
   rcases List.mem_cons.1 hk with rfl | hk
   ·omega
   ·exact h2 k hk
  ·exact zNi n r (m + 1) l (by omega) h
theorem zOK (n : Nat) : ∀ (r m : Nat), (zM7 n m r).length ≤ 2 ^ r
 | r, 0 => by rw [zNt]; exact Nat.one_le_two_pow
 | 0, m + 1 => Nat.zero_le _
 | r + 1, m + 1 => by
  have h1 := zOK n r m
  have h2 := zOK n r (m + 1)
  rw [zM7, List.length_append, List.length_map, Nat.pow_succ]
  omega
def zM6 (hs : List House) (l : List Int) : List House := l.map fun k => hs.getD k.toNat default
theorem zPn {hs : List House} {r : Nat} (h : r + 1 ≤ hs.length) : hs.drop (hs.length - (r + 1)) = hs.getD (hs.length - (r + 1)) default :: hs.drop (hs.length - r) := by
 have e : hs.length - (r + 1) + 1 = hs.length - r := by omega
 rw [← e, u0 (by omega)]
theorem zPO (hs : List House) : ∀ (r : Nat), r ≤ hs.length → ∃ l, zM7 hs.length r r = [l] ∧ zM6 hs l = hs.drop (hs.length - r)
 | 0, _ => ⟨[], rfl, by simp [zM6]⟩
 | r + 1, h => by
  obtain ⟨l, h1, h2⟩ := zPO hs r (by omega)
  refine ⟨((hs.length - (r + 1) : Nat) : Int) :: l, ?_, ?_⟩
  ·rw [zM7, h1, zNs _ _ _ (by omega)]
   rfl
  ·rw [zPn h, ← h2]
   simp [zM6]
def zRn (S : List House → Bool) (hs : List House) : Nat → Nat → List House → List House × Bool
 | 0, _, pre => (pre, S pre)
 | _ + 1, 0, _ => ([], false)
 | m + 1, r + 1, pre => if (zRn S hs m r (pre ++ [hs.getD (hs.length - (r + 1)) default])).2 then ((zRn S hs m r (pre ++ [hs.getD (hs.length - (r + 1)) default])).1, true) else zRn S hs (m + 1) r pre
theorem zN8 (S : List House → Bool) (hs pre : List House) (r : Nat) : zRn S hs 0 r pre = (pre, S pre) := by cases r <;> rfl
theorem zPp (S : List House → Bool) (hs : List House) (m i : Nat) (pre : List House) (hi : i < hs.length) : zRn S hs (m + 1) (hs.length - i) pre =
  if (zRn S hs m (hs.length - (i + 1)) (pre ++ [hs.getD i default])).2 then ((zRn S hs m (hs.length - (i + 1)) (pre ++ [hs.getD i default])).1, true) else zRn S hs (m + 1) (hs.length - (i + 1)) pre := by
 obtain ⟨r, hr⟩ : ∃ r, hs.length - (i + 1) = r := ⟨_, rfl⟩
 have e : hs.length - i = r + 1 := by omega
 have e2 : hs.length - (r + 1) = i := by omega
 rw [e, hr, zRn, e2]
theorem zN7 (S : List House → Bool) (hs : List House) : ∀ (r m : Nat) (pre : List House), r < m → zRn S hs m r pre = ([], false)
 | 0, 0, _, h => by omega
 | 0, m + 1, _, _ => rfl
 | r + 1, 0, _, h => by omega
 | r + 1, m + 1, pre, h => by rw [zRn, zN7 S hs r m _ (by omega), zN7 S hs r (m + 1) _ (by omega)]; rfl
theorem zNp (S : List House → Bool) (hs : List House) : ∀ (r m : Nat) (pre : List House),
  match (zM7 hs.length m r).find? fun l => S (pre ++ zM6 hs l) with
  | some l => zRn S hs m r pre = (pre ++ zM6 hs l, true)
  | .none => (zRn S hs m r pre).2 = false
 | r, 0, pre => by
  rw [zNt, zN8]
  cases e : S pre with
  | true => simp [zM6, e]
  | false => simp [zM6, e]
 | 0, m + 1, pre => by simp [zM7, zRn]
 | r + 1, m + 1, pre => by
  have h1 := zNp S hs r m (pre ++ [hs.getD (hs.length - (r + 1)) default])
  have h2 := zNp S hs r (m + 1) pre
  have e : (fun l => S (pre ++ zM6 hs l)) ∘ (fun l => (((hs.length - (r + 1) : Nat) : Int)) :: l) = fun l => S ((pre ++ [hs.getD (hs.length - (r + 1)) default]) ++ zM6 hs l) := by
   funext l
   simp [zM6]
  rw [zM7, List.find?_append, List.find?_map, e, zRn]
  cases q : (zM7 hs.length m r).find? (fun l => S ((pre ++ [hs.getD (hs.length - (r + 1)) default]) ++ zM6 hs l)) with
  | some l =>
   rw [q] at h1
   simp only [Option.map_some, Option.some_or] at h1 ⊢
   rw [h1]
   simp [zM6]
  | none =>
   rw [q] at h1
   simp only [Option.map_none, Option.none_or] at h1 ⊢
   rw [h1]
   simpa using h2
end Go.Abs

namespace Go.Abs
open Go
theorem zP2 (f : Nat → Bool) : ∀ (n : Nat), f n = true → ∃ M, M ≤ n ∧ f M = true ∧ ∀ m, m < M → f m = false
  | 0, h => ⟨0, Nat.le_refl _, h, fun m hm => by omega⟩
  | n + 1, h => by
    by_cases q : ∃ k, k ≤ n ∧ f k = true
    · obtain ⟨k, h1, h2⟩ := q
      have key : ∀ (n k : Nat), k ≤ n → f k = true → ∃ M, M ≤ n ∧ f M = true ∧ ∀ m, m < M → f m = false := by
        intro n
        induction n with
        | zero => intro k hk hf; obtain rfl : k = 0 := by omega
                  exact ⟨0, Nat.le_refl _, hf, fun m hm => by omega⟩
        | succ n ih =>
          intro k hk hf
          by_cases q : ∃ j, j ≤ n ∧ f j = true
          · obtain ⟨j, h1, h2⟩ := q
            obtain ⟨M, h3, h4⟩ := ih j h1 h2
            exact ⟨M, by omega, h4⟩
          · refine ⟨n + 1, Nat.le_refl _, ?_, fun m hm => ?_⟩
            · by_cases e : k = n + 1
              · rw [← e]; exact hf
              · exact absurd ⟨k, by omega, hf⟩ q
            · cases e : f m with
              | false => rfl
              | true => exact absurd ⟨m, by omega, e⟩ q
      obtain ⟨M, h3, h4⟩ := key n k h1 h2
      exact ⟨M, by omega, h4⟩
    · refine ⟨n + 1, Nat.le_refl _, h, fun m hm => ?_⟩
      cases e : f m with
      | false => rfl
      | true => exact absurd ⟨m, by omega, e⟩ q
theorem zOf {α : Type} [Inhabited α] {f : α → Bool} : ∀ {l : List α} {i : Nat}, (∀ j, j < i → f (l.getD j default) = false) → i < l.length → f (l.getD i default) = true → l.find? f = some (l.getD i default)
 | [], i, _, h, _ => by cases h
 | x :: r, 0, _, _, h => by
  rw [List.find?_cons]
  have : f x = true := h
  rw [this]; rfl
 | x :: r, i + 1, h, hi, h2 => by
  have h0 : f x = false := h 0 (by omega)
  rw [List.find?_cons, h0]
  exact zOf (l := r) (i := i) (fun j hj => h (j + 1) (by omega)) (by simpa using hi) h2
theorem zPr {α : Type} [Inhabited α] {f : α → Bool} {l : List α} (h : ∀ j, j < l.length → f (l.getD j default) = false) : l.find? f = none := by
 rw [List.find?_eq_none]
 intro x hx
 obtain ⟨j, hj, rfl⟩ := List.mem_iff_getElem.1 hx
 have := h j hj
 simp only [List.getD, List.getElem?_eq_getElem hj, Option.getD_some] at this
 rw [this]; simp
structure Least (S : List House → Bool) (hs : List House) (M : Nat) (out : List House) : Prop where
 le : M ≤ hs.length
 hit : zRn S hs M hs.length [] = (out, true)
 min : ∀ m, m < M → (zRn S hs m hs.length []).2 = false
theorem zOm (S : List House → Bool) (hs : List House) (h : S hs = true) : ∃ M out, Least S hs M out := by
 have hn : (zRn S hs hs.length hs.length []).2 = true := by
  have h1 := zNp S hs hs.length hs.length []
  obtain ⟨l, h2, h3⟩ := zPO hs hs.length (Nat.le_refl _)
  rw [h2] at h1
  rw [Nat.sub_self, List.drop_zero] at h3
  simp only [List.nil_append, List.find?_cons, h3, h] at h1
  rw [h1]
 obtain ⟨M, h1, h2, h3⟩ := zP2 (fun m => (zRn S hs m hs.length []).2) hs.length hn
 exact ⟨M, (zRn S hs M hs.length []).1, h1, by rw [← h2], h3⟩
theorem Least.yes {S : List House → Bool} {hs out : List House} {M k i : Nat} (h : Least S hs M out) (hk : k ≤ M) (hi : i < (zM7 hs.length k hs.length).length) (h1 : ∀ j, j < i → S (zM6 hs ((zM7 hs.length k hs.length).getD j default)) = false)
  (h2 : S (zM6 hs ((zM7 hs.length k hs.length).getD i default)) = true) : out = zM6 hs ((zM7 hs.length k hs.length).getD i default) := by
 have e := zNp S hs hs.length k []
 simp only [List.nil_append] at e
 rw [zOf (f := fun l => S (zM6 hs l)) h1 hi h2] at e
 have hkM : k = M := by
  rcases Nat.lt_or_ge k M with q | q
  ·have := h.min k q
   simp only at e
   rw [e] at this; cases this
  ·omega
 subst hkM
 have := h.hit
 simp only at e
 rw [e] at this
 injection this with a b
 exact a.symm
theorem Least.no {S : List House → Bool} {hs out : List House} {M k : Nat} (h : Least S hs M out) (hk : k ≤ M) (h1 : ∀ j, j < (zM7 hs.length k hs.length).length → S (zM6 hs ((zM7 hs.length k hs.length).getD j default)) = false) : k + 1 ≤ M := by
 have e := zNp S hs hs.length k []
 simp only [List.nil_append] at e
 rw [zPr (f := fun l => S (zM6 hs l)) h1] at e
 simp only at e
 rcases Nat.lt_or_ge k M with q | q
 ·exact q
 ·obtain rfl : k = M := by omega
  rw [h.hit] at e; cases e
def zNc (x y : Truth) (hs : List House) (k : Nat) : Bool := (List.range k).all fun j => decide (x.now (hs.getD j default) = y.now (hs.getD j default))
def zNg (x y : Truth) (hs : List House) (l : List Int) (k : Nat) : Bool := (List.range k).all fun j => !decide ((j : Int) ∈ l) || decide (x.now (hs.getD j default) = y.now (hs.getD j default))
theorem zPY (x y : Truth) (hs : List House) (k : Nat) : zNc x y hs (k + 1) = (zNc x y hs k && decide (x.now (hs.getD k default) = y.now (hs.getD k default))) := by
 unfold zNc
 rw [List.range_succ, List.all_append]; simp
theorem zQW (x y : Truth) (hs : List House) (l : List Int) (k : Nat) : zNg x y hs l (k + 1) = (zNg x y hs l k && (!decide ((k : Int) ∈ l) || decide (x.now (hs.getD k default) = y.now (hs.getD k default)))) := by
 unfold zNg
 rw [List.range_succ, List.all_append]; simp
theorem zN3 {a b : Bool} (h : a = true ↔ b = true) : a = b := by cases a <;> cases b <;> simp_all
theorem zPX (x y : Truth) (hs : List House) : zNc x y hs hs.length = zNC x y hs := by
 apply zN3
 unfold zNc zNC
 simp only [List.all_eq_true, List.mem_range, decide_eq_true_eq]
 constructor
 ·intro h z hz
  obtain ⟨j, hj, rfl⟩ := List.mem_iff_getElem.1 hz
  have := h j hj
  simpa [List.getD, hj] using this
 ·intro h j hj
  exact h _ (w8 hj)
theorem zQV (x y : Truth) (hs : List House) (l : List Int) (hl : ∀ k, k ∈ l → 0 ≤ k ∧ k < hs.length) : zNg x y hs l hs.length = zNC x y (zM6 hs l) := by
 apply zN3
 unfold zNg zNC zM6
 simp only [List.all_eq_true, List.mem_range, decide_eq_true_eq, List.mem_map, Bool.or_eq_true, Bool.not_eq_true', decide_eq_false_iff_not]
 constructor
 ·rintro h z ⟨k, hk, rfl⟩
  obtain ⟨h0, h1⟩ := hl k hk
  have e : ((k.toNat : Nat) : Int) = k := by omega
  rcases h k.toNat (by omega) with h | h
  ·rw [e] at h; exact absurd hk h
  ·exact h
 ·intro h j hj
  by_cases q : (j : Int) ∈ l
  ·exact .inr (h _ ⟨_, q, by simp⟩)
  ·exact .inl q
def zNV (l : List Truth) (hs pre : List House) (a b : Nat) : Bool := (List.range b).all fun b => okT l hs pre a b
def zNU (l : List Truth) (hs pre : List House) (a : Nat) : Bool := (List.range a).all fun a => zNV l hs pre a a
theorem zPt (l : List Truth) (hs pre : List House) (a b : Nat) : zNV l hs pre a (b + 1) = (zNV l hs pre a b && okT l hs pre a b) := by
 unfold zNV
 rw [List.range_succ, List.all_append]; simp
theorem zPs (l : List Truth) (hs pre : List House) (a : Nat) : zNU l hs pre (a + 1) = (zNU l hs pre a && zNV l hs pre a a) := by
 unfold zNU
 rw [List.range_succ, List.all_append]; simp
end Go.Abs

namespace Go.Abs
open Go Go.Proofs Tryz
attribute [local irreducible] y6 Hold x8
theorem zOr {h : House} {hs : List House} {F : House → AV} {o : Nat} {H : Nat → AObj} {K : Cont} (ho : H o = .mapo (hs.map House.key) (hs.map F)) (hw : ∀ k, k ∈ hs → k.Wf) (hh : h.Wf)
  (hk : K (.tup [if h ∈ hs then F h else .list [], bV (decide (h ∈ hs))]) [o] []) : X2 prog 121 (.mp o) h.enc true H K := by
 obtain ⟨et, h1, h2⟩ := zAa
 unfold X2
 rw [h1, zAP]
 simp only [h2, ho]
 refine ⟨zAQ, O3 h hh, by simp [Value.cells, Value.oneCell'], fun q hq => ?_, ?_⟩
 ·obtain ⟨k, hk, rfl⟩ := List.mem_map.1 hq; exact O3 k (hw k hk)
 ·rw [zGE, zKF]; simpa [zAV] using hk
theorem zQZ (p : zLo) (c : Change) (h : House) (hp : p.length ≤ 4294967296) (hwf : h.Wf) :
  zLp prog 36 [x7 p, c.enc, h.enc] [] (.tup [.list ((zJG p c h).map House.enc), iV (zDw p c h)]) [] := by
 obtain ⟨s1, s2⟩ := zHy p c hp
 by_cases e : o4 p c = 0
 ·have s := s2 e
  have hc : check p = 0 := by
   unfold o4 at e
   split at e <;> assumption
  have v := (T1 p).1 hc
  have hcan : can p c = 0 := by unfold o4 at e; rw [if_pos hc] at e; exact e
  have f := Fit.of_can hcan
  have hw := v.wf
  clear s1 s2
  by_cases hm : h ∈ q9 p
  ·have e1 : zDw p c h = 0 := by unfold zDw; rw [if_pos e, if_pos hm]
   have e2 : zJG p c h = s6 (mv p c h) := by unfold zJG; rw [if_pos e1]
   have ss := zC7 (mv p c h) (zCS f hm) (by have := zAb f h; omega)
   rw [e1, e2]
   clear e e1 e2
   have hd : decide (h ∈ q9 p) = true := by simpa using hm
   refine q8 func36 rfl (fun E hE => ?_); simp only [go_sem, ntmps36]
   repeat' (first | (refine Qr rfl ?_; try intro _ hK; try simp only [go_sem, *]) | refine Qh rfl ?_ | (refine Qc rfl rfl ?_ ?_ <;> (intro hb; have hc := hb; try simp only [go_sem] at hc)) | refine q6 rfl ?_ | (refine s8 (s) ?_; simp only [go_sem, *]) | ((with_reducible apply And.intro); focus omega) | (refine z8 hK ?_; clear hK; simp only [go_sem, *]) | simp only [z6, z7, go_sem, *])
   all_goals try contradiction
   refine zOr (h := h) (hs := q9 p) (F := zLs (mv p c)) (by simp only [go_sem]) hw hwf ?_
   rw [if_pos hm, zLs, hd]
   repeat' (first | (refine Qr rfl ?_; try intro _ hK; try simp only [go_sem, *]) | refine Qh rfl ?_ | (refine Qc rfl rfl ?_ ?_ <;> (intro hb; have hc := hb; try simp only [go_sem] at hc)) | refine q6 rfl ?_ | (refine y4 (ss) ?_; simp only [go_sem, *]) | ((with_reducible apply And.intro); focus omega) | (refine z8 hK ?_; clear hK; simp only [go_sem, *]) | simp only [z6, z7, go_sem, *])
   all_goals try contradiction
   (refine ⟨[_, _], [], [], ⟨rfl, rfl, trivial⟩, ?_⟩; simp only [go_sem, *])
  ·have e1 : zDw p c h = 3 := by unfold zDw; rw [if_pos e, if_neg hm]
   have e2 : zJG p c h = [] := by unfold zJG; rw [e1]; rfl
   rw [e1, e2]
   clear e e1 e2
   have hd : decide (h ∈ q9 p) = false := by simpa using hm
   refine q8 func36 rfl (fun E hE => ?_); simp only [go_sem, ntmps36]
   repeat' (first | (refine Qr rfl ?_; try intro _ hK; try simp only [go_sem, *]) | refine Qh rfl ?_ | (refine Qc rfl rfl ?_ ?_ <;> (intro hb; have hc := hb; try simp only [go_sem] at hc)) | refine q6 rfl ?_ | (refine s8 (s) ?_; simp only [go_sem, *]) | ((with_reducible apply And.intro); focus omega) | (refine z8 hK ?_; clear hK; simp only [go_sem, *]) | simp only [z6, z7, go_sem, *])
   all_goals try contradiction
   refine zOr (h := h) (hs := q9 p) (F := zLs (mv p c)) (by simp only [go_sem]) hw hwf ?_
   rw [if_neg hm, hd]
   repeat' (first | (refine Qr rfl ?_; try intro _ hK; try simp only [go_sem, *]) | refine Qh rfl ?_ | (refine Qc rfl rfl ?_ ?_ <;> (intro hb; have hc := hb; try simp only [go_sem] at hc)) | refine q6 rfl ?_ | ((with_reducible apply And.intro); focus omega) | (refine z8 hK ?_; clear hK; simp only [go_sem, *]) | simp only [z6, z7, go_sem, *])
   all_goals try contradiction
   (refine ⟨[_, _], [], [], ⟨rfl, rfl, trivial⟩, ?_⟩; simp only [go_sem, *])
 ·have s := s1 e
  have e1 : zDw p c h = o4 p c := by unfold zDw; rw [if_neg e]
  have e2 : zJG p c h = [] := by unfold zJG; rw [e1, if_neg e]
  have e3 : (o4 p c == 0) = false := by rw [beq_eq_false_iff_ne]; exact e
  rw [e1, e2]
  clear s1 s2 e1 e2
  generalize o4 p c = er at *
  refine q8 func36 rfl (fun E hE => ?_); simp only [go_sem, ntmps36]
  repeat' (first | (refine Qr rfl ?_; try intro _ hK; try simp only [go_sem, *]) | refine Qh rfl ?_ | (refine Qc rfl rfl ?_ ?_ <;> (intro hb; have hc := hb; try simp only [go_sem] at hc)) | refine q6 rfl ?_ | (refine y4 (s) ?_; simp only [go_sem, *]) | ((with_reducible apply And.intro); focus omega) | (refine z8 hK ?_; clear hK; simp only [go_sem, *]) | simp only [z6, z7, go_sem, *])
  all_goals try contradiction
  (refine ⟨[_, _], [], [], ⟨rfl, rfl, trivial⟩, ?_⟩; simp only [go_sem, *])
end Go.Abs

namespace Go.Abs
open Go Go.Proofs Tryz
attribute [local irreducible] y6 Hold x8
@[go_sem, simp] theorem zRT (H : Nat → AObj) (m : List (Option Nat)) (ex : List Nat) (l : List (List Int)) : XpL H m ex (List.map j4 l) (List.map j4 l) ↔ True := ⟨fun _ => trivial, fun _ => zBA (fun x => by simp only [XpF]) _⟩
@[go_sem, simp] theorem zRV (H : Nat → AObj) (m : List (Option Nat)) (ex : List Nat) (l : List (List Int)) (ys zs : List AV) : XpL H m ex (List.map j4 l ++ [.list ys]) (List.map j4 l ++ [.list zs]) ↔ ys = zs := by
 rw [L0 _ (fun z hz => by
  obtain ⟨t, _, rfl⟩ := List.mem_map.1 hz
  simp only [XpF])]
 simp only [XpF]
@[go_sem, simp] theorem zRU (H : Nat → AObj) (m : List (Option Nat)) (ex : List Nat) (l r : List (List Int)) : XpL H m ex (List.map j4 l ++ List.map j4 r) (List.map j4 l ++ List.map j4 r) ↔ True := ⟨fun _ => trivial, fun _ => by rw [← List.map_append]; exact zBA (fun x => by simp only [XpF]) _⟩
@[reducible] def zRq (s : Story) : AObj := .box [.list (s.first.map y7), .list (s.steps.map i9), .list (s.facts.map Fact.enc)]
structure RunP (s : Story) (w : List Int) (i : Nat) (t : Truth) (G : Option Truth) : Prop where
 run : zRo s (w.drop i) t = G
 len : t.ways.length = i
 val : Valid t.fin
theorem RunP.start {s : Story} {w : List Int} (v : Valid s.first) : RunP s w 0 (Y8 s) (zRo s w (Y8 s)) := ⟨rfl, rfl, v⟩
theorem RunP.yes {s : Story} {w : List Int} {i : Nat} {t : Truth} {G : Option Truth} (h : RunP s w i t G) (hi : i < w.length) (e : can t.fin (zRr s t (w.getD i default)) = 0) : RunP s w (i + 1) (n0 t (zRr s t (w.getD i default)) (w.getD i default).toNat) G := by
 obtain ⟨h1, h2, h3⟩ := h
 rw [u0 hi, zOw e] at h1
 exact ⟨h1, by rw [zPN, h2], zDW h3 (Fit.of_can e)⟩
theorem RunP.no {s : Story} {w : List Int} {i : Nat} {t : Truth} {G : Option Truth} (h : RunP s w i t G) (hi : i < w.length) (e : ¬ can t.fin (zRr s t (w.getD i default)) = 0) : G = none := by
 obtain ⟨h1, h2, h3⟩ := h
 rw [u0 hi, zOv e] at h1
 exact h1.symm
theorem RunP.fin {s : Story} {w : List Int} {i : Nat} {t : Truth} {G : Option Truth} (h : RunP s w i t G) (hi : w.length ≤ i) : G = some t := by
 have h1 := h.run
 rw [u7 hi] at h1
 exact h1.symm
def zRw (s : Story) (w : List Int) : Prop := w.length = s.steps.length ∧ ∀ j, j < s.steps.length → 0 ≤ w.getD j default ∧ w.getD j default < (s.steps.getD j default).length
theorem zOO {s : Story} {w : List Int} (h : w ∈ zOZ s) : zRw s w := by
 obtain ⟨h1, h2⟩ := zOL _ _ _ h
 exact ⟨h1, fun j hj => by have := h2 j hj; rw [Nat.zero_add] at this; exact this⟩
theorem zQM {s : Story} {w : List Int} {i : Nat} (t : Truth) (c : Change) (h : House) : s6 ((t.now h).flatMap fun x => s6 (mv t.fin c x)) = (n0 t c i).now h := by
 show _ = s6 ((t.now h).flatMap (mv t.fin c))
 exact zG9 (fun z => by simp only [List.mem_flatMap, mem_sortH])
theorem zOG (s : Story) (o : Told s) (w : List Int) (hw : zRw s w) (h : House) (hh : h ∈ q9 s.first) (T : Truth) (hT : zRo s w (Y8 s) = some T) :
  zLp prog 42 [s.enc, j4 w, h.enc] [] (.tup [x7 T.fin, Q3 (T.now h), iV 1]) [] := by
 have h3 := o.steps
 have h0 := RunP.start (w := w) o.first
 have k0 : TOk s s.steps.length (Y8 s) := A6 o.first
 obtain ⟨hwl, hwb⟩ := hw
 rw [hT] at h0
 have hff : (Y8 s).fin = s.first := rfl
 have hfn : (Y8 s).now h = [h] := rfl
 clear hT
 refine q8 func42 rfl (fun E hE => ?_); simp only [go_sem, ntmps42]
 repeat' (first | (refine Qr rfl ?_; try intro _ hK; try simp only [go_sem, *]) | (refine Qi rfl rfl rfl rfl ?_ ?_ <;> (intro hb; (try intro _ hK); have hc := hb; try simp only [go_sem] at hc; simp only [go_sem, *])) | refine Qh rfl ?_ | refine Qd rfl (by kernel_rfl) ?_ | (refine Qc rfl rfl ?_ ?_ <;> (intro hb; have hc := hb; try simp only [go_sem] at hc)) | refine q6 rfl ?_ | (refine Qb ?_ ?_; focus kernel_rfl) | ((with_reducible apply And.intro); focus omega) | (refine z8 hK ?_; clear hK; simp only [go_sem, *]) | simp only [z6, z7, go_sem, *])
 all_goals try contradiction
 refine u4 rfl (w.length) (fun i (t : Truth) => RunP s w i t (some T) ∧ TOk s (s.steps.length - i) t) 82 (fun i t => [(11, iV i), (10, Q3 (t.now h)), (9, .ptr 2 0), (6, .ptr 1 0), (1, j4 w), (3, .ptr 0 0)]) (fun i t => [zRq s, .box [zLz], zL3 t.fin]) [some 0, some 2, some 4] [3] (Y8 s) (by exact ⟨h0, k0⟩) ?_; intro i t hi hP
 clear h0 hff hfn k0
 obtain ⟨hP, hK1⟩ := hP
 by_cases hi : i < w.length
 ·have hi3 : (i : Int) < w.length := by omega
  have his : i < s.steps.length := by omega
  obtain ⟨b0, b1⟩ := hwb i his
  have hti := hP.len
  have hv := hP.val
  have hv3 := hv.len
  have hy := hP.yes hi
  have hn := hP.no hi
  have hc0 : zRr s t (w.getD i default) = (s.steps.getD i default).getD (w.getD i default).toNat default := by unfold zRr w9; rw [hti]
  rw [hc0] at hy hn
  have b2 : (w.getD i default).toNat < (s.steps.getD i default).length := by omega
  have sA := zHA t.fin ((s.steps.getD i default).getD (w.getD i default).toNat default) (by omega)
  have hE : o4 t.fin ((s.steps.getD i default).getD (w.getD i default).toNat default) = can t.fin ((s.steps.getD i default).getD (w.getD i default).toNat default) := by unfold o4; rw [if_pos ((T1 _).2 hv)]
  rw [hE] at sA
  have e : can t.fin ((s.steps.getD i default).getD (w.getD i default).toNat default) = 0 := by
   by_cases e : can t.fin ((s.steps.getD i default).getD (w.getD i default).toNat default) = 0
   ·exact e
   ·have := hn e; cases this
  have hP2 := hy e
  rw [e] at hE
  rw [if_pos e, e] at sA
  obtain ⟨k, hk⟩ : ∃ k, s.steps.length - i = k + 1 := ⟨s.steps.length - i - 1, by omega⟩
  have hk2 : s.steps.length - (i + 1) = k := by omega
  rw [hk] at hK1
  have hsm := hK1.small h3 hh
  have hK2 := hK1.next e (w.getD i default).toNat
  have hmm := hK1.mem h hh
  have hnn := zQM (i := (w.getD i default).toNat) t ((s.steps.getD i default).getD (w.getD i default).toNat default) h (s := s) (w := w)
  have hBB : ∀ x, x ∈ t.now h → x.Wf ∧ zDw t.fin ((s.steps.getD i default).getD (w.getD i default).toNat default) x = 0 ∧ zJG t.fin ((s.steps.getD i default).getD (w.getD i default).toNat default) x = s6 (mv t.fin ((s.steps.getD i default).getD (w.getD i default).toNat default) x) := fun x hx => by
   have hx2 := hmm x hx
   have b : zDw t.fin ((s.steps.getD i default).getD (w.getD i default).toNat default) x = 0 := by unfold zDw; rw [if_pos hE, if_pos hx2]
   exact ⟨hv.wf x hx2, b, by unfold zJG; rw [if_pos b]⟩
  have sB := fun x hx => zQZ t.fin ((s.steps.getD i default).getD (w.getD i default).toNat default) x (by omega) hx
  have hBl : ∀ x, (s6 (mv t.fin ((s.steps.getD i default).getD (w.getD i default).toNat default) x)).length ≤ 2 := fun x => Nat.le_trans (N2 (R3 _).nodup (fun _ hx => mem_sortH.1 hx)) (zGO _ _ x)
  have hf : (n0 t ((s.steps.getD i default).getD (w.getD i default).toNat default) (w.getD i default).toNat).fin = s9 t.fin ((s.steps.getD i default).getD (w.getD i default).toNat default) := rfl
  rw [← hf] at sA
  clear hP hc0 hti hE hwb hf hy hn e hmm
  generalize hz : w.getD i default = z at *
  generalize hcc : (s.steps.getD i default).getD z.toNat default = c at *
  generalize n0 t c z.toNat = t2 at *
  generalize t.now h = l at *
  have hfl : ([] : List House) ++ (l.drop 0).flatMap (fun x => s6 (mv t.fin c x)) = l.flatMap fun x => s6 (mv t.fin c x) := rfl
  have hLl : (l.flatMap fun x => s6 (mv t.fin c x)).length ≤ 16 := by
   have := zOg (f := fun x => s6 (mv t.fin c x)) (l := l) (N := 2) (fun x _ => hBl x)
   omega
  have sS := zLb (l.flatMap fun x => s6 (mv t.fin c x)) (by omega)
  rw [hnn] at sS
  clear hnn
  generalize (l.flatMap fun x => s6 (mv t.fin c x)) = L2 at *
  repeat' (first | (refine Qr rfl ?_; try intro _ hK; try simp only [go_sem, *]) | (refine Qi rfl rfl rfl rfl ?_ ?_ <;> (intro hb; (try intro _ hK); have hc := hb; try simp only [go_sem] at hc; simp only [go_sem, *])) | refine Qh rfl ?_ | refine Qd rfl (by kernel_rfl) ?_ | (refine Qc rfl rfl ?_ ?_ <;> (intro hb; have hc := hb; try simp only [go_sem] at hc)) | refine q6 rfl ?_ | (refine Qb ?_ ?_; focus kernel_rfl) | (refine y4 (sA) ?_; simp only [go_sem, *]) | ((with_reducible apply And.intro); focus omega) | (refine z8 hK ?_; clear hK; simp only [go_sem, *]) | simp only [z6, z7, go_sem, *])
  all_goals try contradiction
  clear sA hcc hz
  refine u4 rfl (l.length) (fun j (acc : List House) => acc ++ (l.drop j).flatMap (fun x => s6 (mv t.fin c x)) = L2) 82 (fun j acc => [(16, iV j), (15, .own 5 3 0 acc.length), (13, .ptr 4 0), (12, .ptr 3 0), (11, iV i), (10, Q3 l), (9, .ptr 2 0), (6, .ptr 1 0), (1, j4 w), (3, .ptr 0 0)]) (fun j acc => [zRq s, .box [zLz], zL3 t.fin, zMO c, zL3 t2.fin, .row 3 (acc.map House.enc)]) [some 0, some 1, some 2, some 3, some 4, none] [] ([]) (by exact hfl) ?_; intro j acc hj hQ
  clear hfl
  have hql := congrArg List.length hQ
  simp only [List.length_append] at hql
  by_cases hj : j < l.length
  ·have hj3 : (j : Int) < l.length := by omega
   obtain ⟨f1, f2, f3⟩ := hBB _ (w8 hj)
   have sB1 := sB _ f1
   rw [f2, f3] at sB1
   have hb2 := hBl (l.getD j default)
   rw [u0 hj, List.flatMap_cons] at hQ
   clear hBB sB hBl f1 f2 f3 sS
   generalize s6 (mv t.fin c (l.getD j default)) = b at *
   have hb3 : ¬ ((b.length : Nat) : Int) > 2 := by omega
   repeat' (first | (refine Qr rfl ?_; try intro _ hK; try simp only [go_sem, *]) | (refine Qi rfl rfl rfl rfl ?_ ?_ <;> (intro hb; (try intro _ hK); have hc := hb; try simp only [go_sem] at hc; simp only [go_sem, *])) | refine Qh rfl ?_ | refine Qd rfl (by kernel_rfl) ?_ | (refine Qc rfl rfl ?_ ?_ <;> (intro hb; have hc := hb; try simp only [go_sem] at hc)) | refine q6 rfl ?_ | (with_reducible (show (∀ _ : AV, _ → _) ∧ _); refine And.intro ?_ ?_; (focus (intro y hy; first | (obtain ⟨z, _, rfl⟩ := List.mem_map.1 (hy); simp [go_sem]; done) | (obtain ⟨z, _, rfl⟩ := List.mem_map.1 (List.mem_of_mem_take hy); simp [go_sem]; done) | (obtain ⟨z, _, rfl⟩ := List.mem_map.1 (List.mem_of_mem_drop hy); simp [go_sem]; done) | (obtain ⟨z, _, rfl⟩ := List.mem_map.1 (List.mem_of_mem_drop (List.mem_of_mem_take hy)); simp [go_sem]; done)))) | (refine Qb ?_ ?_; focus kernel_rfl) | (refine y4 (sB1) ?_; simp only [go_sem, *]) | ((with_reducible apply And.intro); focus omega) | (refine z8 hK ?_; clear hK; simp only [go_sem, *]) | simp only [z6, z7, go_sem, *])
   all_goals try contradiction
   exact w6 (i' := j + 1) [some 0, some 1, some 2, some 3, some 4, some 6] [] (acc ++ b) (by rw [← hQ]; simp)
  ·have hj3 : ¬ (j : Int) < l.length := by omega
   rw [u7 (by omega), List.flatMap_nil, List.append_nil] at hQ
   subst hQ
   clear hBB sB hBl
   repeat' (first | (refine Qr rfl ?_; try intro _ hK; try simp only [go_sem, *]) | (refine Qi rfl rfl rfl rfl ?_ ?_ <;> (intro hb; (try intro _ hK); have hc := hb; try simp only [go_sem] at hc; simp only [go_sem, *])) | refine Qh rfl ?_ | refine Qd rfl (by kernel_rfl) ?_ | (refine Qc rfl rfl ?_ ?_ <;> (intro hb; have hc := hb; try simp only [go_sem] at hc)) | refine q6 rfl ?_ | (refine Qb ?_ ?_; focus kernel_rfl) | (refine o7 (sS) ?_ rfl ?_ ?_ ?_ ?_; (iterate 2 (focus (simp only [go_sem, *]; done))); (iterate 2 (focus (first | (simp; done) | (simp [go_sem]; done)))); simp only [go_sem, v6, *]) | ((with_reducible apply And.intro); focus omega) | (refine z8 hK ?_; clear hK; simp only [go_sem, *]) | simp only [z6, z7, go_sem, *])
   all_goals try contradiction
   exact w6 (i' := i + 1) [some 0, some 1, some 2] [] (t2) (by exact ⟨hP2, by rw [hk2]; exact hK2⟩)
 ·have hi3 : ¬ (i : Int) < w.length := by omega
  have hG := hP.fin (by omega)
  injection hG with hG
  subst hG
  clear hP hwl hwb hK1
  repeat' (first | (refine Qr rfl ?_; try intro _ hK; try simp only [go_sem, *]) | (refine Qi rfl rfl rfl rfl ?_ ?_ <;> (intro hb; (try intro _ hK); have hc := hb; try simp only [go_sem] at hc; simp only [go_sem, *])) | refine Qh rfl ?_ | refine Qd rfl (by kernel_rfl) ?_ | (refine Qc rfl rfl ?_ ?_ <;> (intro hb; have hc := hb; try simp only [go_sem] at hc)) | refine q6 rfl ?_ | (refine Qb ?_ ?_; focus kernel_rfl) | ((with_reducible apply And.intro); focus omega) | (refine z8 hK ?_; clear hK; simp only [go_sem, *]) | simp only [z6, z7, go_sem, *])
  all_goals try contradiction
  refine ⟨[x7 T.fin, Q3 (T.now h), iV 1], [], [], ⟨(by simp only [u1, go_sem]), rfl, rfl, trivial⟩, ?_⟩; simp only [go_sem, *]
end Go.Abs

namespace Go.Abs
open Go Go.Proofs Tryz
attribute [local irreducible] y6 Hold x8
@[reducible] def zRt (hs : List House) (f : House → List House) : List AV := hs.map fun h => Q3 (f h)
@[go_sem, simp] theorem zRS (H : Nat → AObj) (m : List (Option Nat)) (ex : List Nat) (l : List House) (f : House → List House) : XpL H m ex (List.map (fun h => AV.list (List.map House.enc (f h))) l) (List.map (fun h => AV.list (List.map House.enc (f h))) l) ↔ True := ⟨fun _ => trivial, fun _ => zBA (fun x => by simp only [XpF]) _⟩
@[go_sem, simp] theorem zPS {α : Type} (H : Nat → AObj) (m : List (Option Nat)) (ex : List Nat) (f : α → List AV) (l : List α) (x y : AV) : XpL H m ex (List.map (fun t => AV.list (f t)) l ++ [x]) (List.map (fun t => AV.list (f t)) l ++ [y]) ↔ XpF H m ex x y := by
 rw [L0 _ (fun z hz => by
  obtain ⟨t, _, rfl⟩ := List.mem_map.1 hz
  simp only [XpF])]
@[go_sem, simp] theorem zRY {α : Type} (H : Nat → AObj) (m : List (Option Nat)) (ex : List Nat) (f : α → List AV) (l : List α) : XpL H m ex (List.map (fun t => AV.list (f t)) l) (List.map (fun t => AV.list (f t)) l) ↔ True := ⟨fun _ => trivial, fun _ => zBA (fun x => by simp only [XpF]) _⟩
theorem zOH (s : Story) (w : List Int) (hw : zRw s w) (h3 : s.steps.length ≤ 4294967296) : zLp prog 63 [s.enc, j4 w] [] (bV true) [] := by
 obtain ⟨hwl, hwb⟩ := hw
 have hn : ((w.length : Int) != (s.steps.length : Int)) = false := by simp; omega
 refine q8 func63 rfl (fun E hE => ?_); simp only [go_sem, ntmps63]
 repeat' (first | (refine Qr rfl ?_; try intro _ hK; try simp only [go_sem, *]) | (refine Qi rfl rfl rfl rfl ?_ ?_ <;> (intro hb; (try intro _ hK); have hc := hb; try simp only [go_sem] at hc; simp only [go_sem, *])) | refine Qh rfl ?_ | refine Qd rfl (by kernel_rfl) ?_ | (refine Qc rfl rfl ?_ ?_ <;> (intro hb; have hc := hb; try simp only [go_sem] at hc)) | refine q6 rfl ?_ | (refine Qb ?_ ?_; focus kernel_rfl) | ((with_reducible apply And.intro); focus omega) | (refine z8 hK ?_; clear hK; simp only [go_sem, *]) | simp only [z6, z7, go_sem, *])
 all_goals try contradiction
 clear hn
 refine u3 rfl (w.length) (fun i => NoP i) 37 (fun i => [(5, iV i), (2, .ptr 0 0), (1, j4 w)]) (fun i => [zRq s]) [some 0] [] (by trivial) ?_; intro i hi hP
 by_cases hi : i < w.length
 ·have hi3 : (i : Int) < w.length := by omega
  have his : i < s.steps.length := by omega
  obtain ⟨b0, b1⟩ := hwb i his
  clear hwl hwb
  generalize hz : w.getD i default = z at *
  have n1 : ¬ z < 0 := by omega
  have n2 : ¬ z ≥ ((s.steps.getD i default).length : Int) := by omega
  repeat' (first | (refine Qr rfl ?_; try intro _ hK; try simp only [go_sem, *]) | (refine Qi rfl rfl rfl rfl ?_ ?_ <;> (intro hb; (try intro _ hK); have hc := hb; try simp only [go_sem] at hc; simp only [go_sem, *])) | refine Qh rfl ?_ | refine Qd rfl (by kernel_rfl) ?_ | (refine Qc rfl rfl ?_ ?_ <;> (intro hb; have hc := hb; try simp only [go_sem] at hc)) | refine q6 rfl ?_ | (refine Qb ?_ ?_; focus kernel_rfl) | ((with_reducible apply And.intro); focus omega) | (refine z8 hK ?_; clear hK; simp only [go_sem, *]) | simp only [z6, z7, go_sem, *])
  all_goals first | contradiction | omega | skip
  exact u2 (i' := i + 1) [some 0] [] (by trivial)
 ·have hi3 : ¬ (i : Int) < w.length := by omega
  clear hwl
  repeat' (first | (refine Qr rfl ?_; try intro _ hK; try simp only [go_sem, *]) | (refine Qi rfl rfl rfl rfl ?_ ?_ <;> (intro hb; (try intro _ hK); have hc := hb; try simp only [go_sem] at hc; simp only [go_sem, *])) | refine Qh rfl ?_ | refine Qd rfl (by kernel_rfl) ?_ | (refine Qc rfl rfl ?_ ?_ <;> (intro hb; have hc := hb; try simp only [go_sem] at hc)) | refine q6 rfl ?_ | (refine Qb ?_ ?_; focus kernel_rfl) | ((with_reducible apply And.intro); focus omega) | (refine z8 hK ?_; clear hK; simp only [go_sem, *]) | simp only [z6, z7, go_sem, *])
  all_goals try contradiction
  (refine ⟨[_], [], [], ⟨rfl, trivial⟩, ?_⟩; simp only [go_sem, *])
theorem zQk (s : Story) (o : Told s) : zLp prog 45 [s.enc] [] (.tup [.list ((r5 s).map fun t => .list (zRt (q9 s.first) t.now)), bV true]) [] := by
 have v := o.first
 have hct := v.count
 have h3 := o.steps
 have sT := zHZ s (zLj o)
 have hl := H0 o.steps (fun w hw => (o.ways w hw).2.1)
 have sH := zHU s.first (by have := v.len; omega) (fun l hl => by have := (v.rows l hl).len; omega) (by omega)
 have hwy : ∀ t, t ∈ r5 s → zRw s t.ways ∧ t.ways.length ≤ 1000 := fun t ht => by
  have := zOO (zNj ht).1
  exact ⟨this, by have := this.1; omega⟩
 have sF := fun t (ht : t ∈ r5 s) h (hh : h ∈ q9 s.first) => zOG s o t.ways (hwy t ht).1 h hh t (zNj ht).2
 have sL := fun t (ht : t ∈ r5 s) => zOH s t.ways (hwy t ht).1 (by omega)
 have hww : (C4 s).map j4 = (r5 s).map fun t => j4 t.ways := by unfold C4; rw [List.map_map]; rfl
 have hwl : (C4 s).length = (r5 s).length := by unfold C4; rw [List.length_map]
 rw [hww] at sT
 clear hww hwl hwy
 generalize r5 s = L at *
 generalize q9 s.first = H at *
 have h30 : ¬ ((L.length : Nat) : Int) > 30 := by omega
 refine q8 func45 rfl (fun E hE => ?_); simp only [go_sem, ntmps45]
 repeat' (first | (refine Qr rfl ?_; try intro _ hK; try simp only [go_sem, *]) | (refine Qi rfl rfl rfl rfl ?_ ?_ <;> (intro hb; (try intro _ hK); have hc := hb; try simp only [go_sem] at hc; simp only [go_sem, *])) | refine Qh rfl ?_ | refine Qd rfl (by kernel_rfl) ?_ | (refine Qc rfl rfl ?_ ?_ <;> (intro hb; have hc := hb; try simp only [go_sem] at hc)) | refine q6 rfl ?_ | (refine Qb ?_ ?_; focus kernel_rfl) | (refine y4 (sT) ?_; simp only [go_sem, *]) | (refine s8 (sH) ?_; simp only [go_sem, *]) | ((with_reducible apply And.intro); focus omega) | (refine z8 hK ?_; clear hK; simp only [go_sem, *]) | simp only [z6, z7, go_sem, *])
 all_goals try contradiction
 clear sT sH h30
 refine u3 rfl (L.length) (fun i => NoP i) 73 (fun i => [(8, iV i), (7, .own 1 1 0 i), (6, Q3 H), (4, .list (L.map fun t => j4 t.ways)), (1, .ptr 0 0)]) (fun i => [zRq s, .box ((L.take i).map fun t => .list (zRt H t.now))]) [some 0, none] [1] (by trivial) ?_; intro i hi hP
 by_cases hi : i < L.length
 ·have hi3 : (i : Int) < L.length := by omega
  have hm := w8 hi
  have sL1 := sL _ hm
  have sF1 := sF _ hm
  have e := Z8 (l := L) (i := i) hi
  clear sL sF hm
  repeat' (first | (refine Qr rfl ?_; try intro _ hK; try simp only [go_sem, *]) | (refine Qi rfl rfl rfl rfl ?_ ?_ <;> (intro hb; (try intro _ hK); have hc := hb; try simp only [go_sem] at hc; simp only [go_sem, *])) | refine Qh rfl ?_ | refine Qd rfl (by kernel_rfl) ?_ | (refine Qc rfl rfl ?_ ?_ <;> (intro hb; have hc := hb; try simp only [go_sem] at hc)) | refine q6 rfl ?_ | (refine Qb ?_ ?_; focus kernel_rfl) | (refine y4 (sL1) ?_; simp only [go_sem, *]) | ((with_reducible apply And.intro); focus omega) | (refine z8 hK ?_; clear hK; simp only [go_sem, *]) | simp only [z6, z7, go_sem, *])
  all_goals try contradiction
  clear sL1
  refine u3 rfl (H.length) (fun k => NoP k) 73 (fun k => [(10, iV k), (9, .own 2 1 0 k), (8, iV i), (7, .own 1 1 0 i), (6, Q3 H), (4, .list (L.map fun t => j4 t.ways)), (1, .ptr 0 0)]) (fun k => [zRq s, .box ((L.take i).map fun t => .list (zRt H t.now)), .box (zRt (H.take k) (L.getD i default).now)]) [some 0, some 1, none] [] (by trivial) ?_; intro k hk hQ
  by_cases hk : k < H.length
  ·have hk3 : (k : Int) < H.length := by omega
   have sF2 := sF1 _ (w8 hk)
   have e2 := Z8 (l := H) (i := k) hk
   clear sF1 e
   repeat' (first | (refine Qr rfl ?_; try intro _ hK; try simp only [go_sem, *]) | (refine Qi rfl rfl rfl rfl ?_ ?_ <;> (intro hb; (try intro _ hK); have hc := hb; try simp only [go_sem] at hc; simp only [go_sem, *])) | refine Qh rfl ?_ | refine Qd rfl (by kernel_rfl) ?_ | (refine Qc rfl rfl ?_ ?_ <;> (intro hb; have hc := hb; try simp only [go_sem] at hc)) | refine q6 rfl ?_ | (refine Qb ?_ ?_; focus kernel_rfl) | (refine y4 (sF2) ?_; simp only [go_sem, *]) | ((with_reducible apply And.intro); focus omega) | (refine z8 hK ?_; clear hK; simp only [go_sem, *]) | simp only [z6, z7, go_sem, *])
   all_goals try contradiction
   exact u2 (i' := k + 1) [some 0, some 1, some 5] [] (by trivial)
  ·have hk3 : ¬ (k : Int) < H.length := by omega
   have e2 : H.take k = H := List.take_of_length_le (by omega)
   have e3 : k = H.length := by omega
   subst e3
   clear sF1
   repeat' (first | (refine Qr rfl ?_; try intro _ hK; try simp only [go_sem, *]) | (refine Qi rfl rfl rfl rfl ?_ ?_ <;> (intro hb; (try intro _ hK); have hc := hb; try simp only [go_sem] at hc; simp only [go_sem, *])) | refine Qh rfl ?_ | refine Qd rfl (by kernel_rfl) ?_ | (refine Qc rfl rfl ?_ ?_ <;> (intro hb; have hc := hb; try simp only [go_sem] at hc)) | refine q6 rfl ?_ | (refine Qb ?_ ?_; focus kernel_rfl) | ((with_reducible apply And.intro); focus omega) | (refine z8 hK ?_; clear hK; simp only [go_sem, *]) | simp only [z6, z7, go_sem, *])
   all_goals try contradiction
   exact u2 (i' := i + 1) [some 0, some 4] [2] (by trivial)
 ·have hi3 : ¬ (i : Int) < L.length := by omega
  have e : L.take i = L := List.take_of_length_le (by omega)
  have e3 : i = L.length := by omega
  subst e3
  clear sL sF
  repeat' (first | (refine Qr rfl ?_; try intro _ hK; try simp only [go_sem, *]) | (refine Qi rfl rfl rfl rfl ?_ ?_ <;> (intro hb; (try intro _ hK); have hc := hb; try simp only [go_sem] at hc; simp only [go_sem, *])) | refine Qh rfl ?_ | refine Qd rfl (by kernel_rfl) ?_ | (refine Qc rfl rfl ?_ ?_ <;> (intro hb; have hc := hb; try simp only [go_sem] at hc)) | refine q6 rfl ?_ | (refine Qb ?_ ?_; focus kernel_rfl) | ((with_reducible apply And.intro); focus omega) | (refine z8 hK ?_; clear hK; simp only [go_sem, *]) | simp only [z6, z7, go_sem, *])
  all_goals try contradiction
  refine ⟨[_, _], [], [1], ⟨rfl, rfl, trivial⟩, ?_⟩
  simp only [go_sem, *]
  intro x hx
  obtain ⟨y, _, rfl⟩ := List.mem_map.1 hx
  rfl
end Go.Abs

namespace Go.Abs
open Go Go.Proofs Tryz
attribute [local irreducible] y6 Hold x8
def zNS (x y : Truth) (hs : List House) (i : Nat) : Prop := ∀ h, h ∈ hs.take i → x.now h = y.now h
theorem zOq {x y : Truth} {hs : List House} {i : Nat} (hi : i < hs.length) (h : decide (x.now (hs.getD i default) = y.now (hs.getD i default)) = false) : zNC x y hs = false := by
 unfold zNC
 rw [List.all_eq_false]
 exact ⟨_, w8 hi, by simpa using of_decide_eq_false h⟩
theorem zOo {x y : Truth} {hs : List House} {i : Nat} (hi : hs.length ≤ i) (h : zNS x y hs i) : zNC x y hs = true := by
 unfold zNC
 rw [List.all_eq_true]
 intro z hz
 rw [zNS, List.take_of_length_le hi] at h
 simpa using h z hz
theorem zOp {x y : Truth} {hs : List House} {i : Nat} (hi : i < hs.length) (h : zNS x y hs i) (h2 : decide (x.now (hs.getD i default) = y.now (hs.getD i default)) = true) : zNS x y hs (i + 1) := by
 intro z hz
 rw [Z8 hi] at hz
 rcases List.mem_append.1 hz with hz | hz
 ·exact h z hz
 ·rw [List.mem_singleton.1 hz]; simpa using h2
theorem zPH (p : zLo) (x y : Truth) (hs : List House) (v : Valid p) (hh : ∀ h, h ∈ hs → h ∈ q9 p) (hl : hs.length ≤ 1000) (hx : ∀ h, h ∈ q9 p → (x.now h).length ≤ 1000) :
  zLp prog 168 [x.enc p, y.enc p, .list (hs.map House.enc)] [] (bV (zNC x y hs)) [] := by
 have hw := v.wf
 have hF := fun i => zOq (x := x) (y := y) (hs := hs) (i := i)
 have hT := fun i => zOo (x := x) (y := y) (hs := hs) (i := i)
 generalize zNC x y hs = L at *
 refine q8 func168 rfl (fun E hE => ?_); simp only [go_sem, ntmps168]
 repeat' (first | (refine Qr rfl ?_; try intro _ hK; try simp only [go_sem, *]) | refine Qh rfl ?_ | refine Qd rfl (by kernel_rfl) ?_ | (refine Qc rfl rfl ?_ ?_ <;> (intro hb; have hc := hb; try simp only [go_sem] at hc)) | refine q6 rfl ?_ | (refine Qb ?_ ?_; focus kernel_rfl) | ((with_reducible apply And.intro); focus omega) | (refine z8 hK ?_; clear hK; simp only [go_sem, *]) | simp only [z6, z7, go_sem, *])
 refine u3 rfl (hs.length) (fun i => zNS x y hs i) 26 (fun i => [(11, iV i), (10, iV hs.length), (9, .list (hs.map House.enc)), (4, .ptr 1 0), (3, .ptr 0 0)]) (fun i => [.box [.list (x.ways.map iV), .list (x.fin.map y7), .fmap (w5 p) (w4 p x.now)], .box [.list (y.ways.map iV), .list (y.fin.map y7), .fmap (w5 p) (w4 p y.now)]]) [some 0, some 1] [] (by intro h hq; cases hq) ?_; intro i hi hP
 by_cases hi : i < hs.length
 ·have hi3 : (i : Int) < hs.length := by omega
  have hm := hh _ (w8 hi)
  have hwf := hw _ hm
  have hxl := hx _ hm
  have sc := zHQ (x.now (hs.getD i default)) (y.now (hs.getD i default)) (by omega)
  have hF1 := hF i hi
  have hN := zOp hi hP
  clear hF hT
  repeat' (first | (refine Qr rfl ?_; try intro _ hK; try simp only [go_sem, *]) | refine Qh rfl ?_ | refine Qd rfl (by kernel_rfl) ?_ | (refine Qc rfl rfl ?_ ?_ <;> (intro hb; have hc := hb; try simp only [go_sem] at hc)) | refine q6 rfl ?_ | (refine Qb ?_ ?_; focus kernel_rfl) | ((with_reducible apply And.intro); focus omega) | (refine z8 hK ?_; clear hK; simp only [go_sem, *]) | simp only [z6, z7, go_sem, *])
  refine V7 (h := hs.getD i default) (hs := q9 p) (F := zLs x.now) hw hwf ?_
  rw [if_pos hm, zLs]
  repeat' (first | (refine Qr rfl ?_; try intro _ hK; try simp only [go_sem, *]) | refine Qh rfl ?_ | refine Qd rfl (by kernel_rfl) ?_ | (refine Qc rfl rfl ?_ ?_ <;> (intro hb; have hc := hb; try simp only [go_sem] at hc)) | refine q6 rfl ?_ | (refine Qb ?_ ?_; focus kernel_rfl) | ((with_reducible apply And.intro); focus omega) | (refine z8 hK ?_; clear hK; simp only [go_sem, *]) | simp only [z6, z7, go_sem, *])
  refine V7 (h := hs.getD i default) (hs := q9 p) (F := zLs y.now) hw hwf ?_
  rw [if_pos hm, zLs]
  generalize decide (x.now (hs.getD i default) = y.now (hs.getD i default)) = D at *
  cases D with
  | true =>
   have hN2 := hN rfl
   clear hF1 hN
   repeat' (first | (refine Qr rfl ?_; try intro _ hK; try simp only [go_sem, *]) | refine Qh rfl ?_ | refine Qd rfl (by kernel_rfl) ?_ | (refine Qc rfl rfl ?_ ?_ <;> (intro hb; have hc := hb; try simp only [go_sem] at hc)) | refine q6 rfl ?_ | (refine Qb ?_ ?_; focus kernel_rfl) | (refine y4 (sc) ?_; simp only [go_sem, *]) | ((with_reducible apply And.intro); focus omega) | (refine z8 hK ?_; clear hK; simp only [go_sem, *]) | simp only [z6, z7, go_sem, *])
   all_goals try contradiction
   exact u2 (i' := i + 1) [some 0, some 1] [] (by exact hN2)
  | false =>
   have hL := hF1 rfl
   clear hF1 hN
   subst hL
   repeat' (first | (refine Qr rfl ?_; try intro _ hK; try simp only [go_sem, *]) | refine Qh rfl ?_ | refine Qd rfl (by kernel_rfl) ?_ | (refine Qc rfl rfl ?_ ?_ <;> (intro hb; have hc := hb; try simp only [go_sem] at hc)) | refine q6 rfl ?_ | (refine Qb ?_ ?_; focus kernel_rfl) | (refine y4 (sc) ?_; simp only [go_sem, *]) | ((with_reducible apply And.intro); focus omega) | (refine z8 hK ?_; clear hK; simp only [go_sem, *]) | simp only [z6, z7, go_sem, *])
   all_goals try contradiction
   (refine ⟨[_], [], [], ⟨rfl, trivial⟩, ?_⟩; simp only [go_sem, *])
 ·have hi3 : ¬ (i : Int) < hs.length := by omega
  have hL := hT i (by omega) hP
  clear hF hT
  subst hL
  repeat' (first | (refine Qr rfl ?_; try intro _ hK; try simp only [go_sem, *]) | refine Qh rfl ?_ | refine Qd rfl (by kernel_rfl) ?_ | (refine Qc rfl rfl ?_ ?_ <;> (intro hb; have hc := hb; try simp only [go_sem] at hc)) | refine q6 rfl ?_ | (refine Qb ?_ ?_; focus kernel_rfl) | ((with_reducible apply And.intro); focus omega) | (refine z8 hK ?_; clear hK; simp only [go_sem, *]) | simp only [z6, z7, go_sem, *])
  all_goals try contradiction
  (refine ⟨[_], [], [], ⟨rfl, trivial⟩, ?_⟩; simp only [go_sem, *])
def zNL (l : List Truth) (hs pre : List House) (i j : Nat) : Prop := (∀ a, a < i → ∀ b, b < a → okT l hs pre a b = true) ∧ ∀ b, b < j → okT l hs pre i b = true
theorem zO1 {l : List Truth} {hs pre : List House} {i j : Nat} (hi : i < l.length) (hj : j < i) (h : okT l hs pre i j = false) : zNA l hs pre = false := by
 cases e : zNA l hs pre with
 | false => rfl
 | true =>
  have := settlesT_iff.1 e i hi j hj
  rw [h] at this; cases this
theorem zOy {l : List Truth} {hs pre : List House} {i : Nat} (hi : l.length ≤ i) (h : zNL l hs pre i 0) : zNA l hs pre = true := by
 rw [settlesT_iff]
 exact fun a ha b hb => h.1 a (by omega) b hb
theorem zOz {l : List Truth} {hs pre : List House} {i : Nat} (h : zNL l hs pre i i) : zNL l hs pre (i + 1) 0 := by
 refine ⟨fun a ha b hb => ?_, fun b hb => by omega⟩
 rcases Nat.lt_or_ge a i with h1 | h1
 ·exact h.1 a h1 b hb
 ·have : a = i := by omega
  subst this
  exact h.2 b hb
theorem zO0 {l : List Truth} {hs pre : List House} {i j : Nat} (h : zNL l hs pre i j) (h2 : okT l hs pre i j = true) : zNL l hs pre i (j + 1) := by
 refine ⟨h.1, fun b hb => ?_⟩
 rcases Nat.lt_or_ge b j with h1 | h1
 ·exact h.2 b h1
 ·have : b = j := by omega
  subst this
  exact h2
theorem zO2 (l : List Truth) (hs pre : List House) : zNL l hs pre 0 0 := ⟨fun a ha => by omega, fun b hb => by omega⟩
theorem zQ1 (s : Story) (o : Told s) (l : List Truth) (pre : List House) (hh : ∀ h, h ∈ pre → h ∈ q9 s.first) (hl : pre.length ≤ 1000) (hlt : l.length ≤ 1000) (hx : ∀ t, t ∈ l → ∀ h, h ∈ q9 s.first → (t.now h).length ≤ 1000) :
  zLp prog 148 [.ptr 0 0, .list (l.map (Truth.enc s.first)), .list (pre.map House.enc)] [l0 s] (bV (zNA l (q9 s.first) pre)) [l0 s] := by
 have v := o.first
 have hct := v.count
 have h0 := zO2 l (q9 s.first) pre
 have hF := fun i j => zO1 (l := l) (hs := q9 s.first) (pre := pre) (i := i) (j := j)
 have hT := fun i => zOy (l := l) (hs := q9 s.first) (pre := pre) (i := i)
 have sL := fun (x y : Truth) (hx) => zPH s.first x y pre v hh hl hx
 have sA := fun (x y : Truth) (hx) => zPH s.first x y (q9 s.first) v (fun _ h => h) (by omega) hx
 generalize zNA l (q9 s.first) pre = S at *
 have hca : p9 prog 168 = true := by kernel_rfl
 refine q8 func148 rfl (fun E hE => ?_); simp only [go_sem, ntmps148]
 repeat' (first | (refine Qr rfl ?_; try intro _ hK; try simp only [go_sem, *]) | (refine Qi rfl rfl rfl rfl ?_ ?_ <;> (intro hb; (try intro _ hK); have hc := hb; try simp only [go_sem] at hc; simp only [go_sem, *])) | refine Qh rfl ?_ | refine Qd rfl (by kernel_rfl) ?_ | (refine Qc rfl rfl ?_ ?_ <;> (intro hb; have hc := hb; try simp only [go_sem] at hc)) | refine q6 rfl ?_ | (refine Qb ?_ ?_; focus kernel_rfl) | ((with_reducible apply And.intro); focus omega) | (refine z8 hK ?_; clear hK; simp only [go_sem, *]) | simp only [z6, z7, go_sem, *])
 refine u3 rfl (l.length) (fun i => zNL l (q9 s.first) pre i 0) 45 (fun i => [(14, iV i), (13, iV l.length), (12, .list (l.map (Truth.enc s.first))), (7, fnV 168), (2, .list (pre.map House.enc)), (1, .list (l.map (Truth.enc s.first))), (0, .ptr 0 0)]) (fun i => [l0 s]) [some 0] [] (by exact h0) ?_; intro i hi hP
 clear h0
 by_cases hi : i < l.length
 ·have hi3 : (i : Int) < l.length := by omega
  have hF1 := fun j => hF i j hi
  have sL1 := fun y => sL (l.getD i default) y (hx _ (w8 hi))
  have sA1 := fun y => sA (l.getD i default) y (hx _ (w8 hi))
  clear hF hT sL sA
  have hez : l.take (i - 0) = l.take i := by rw [Nat.sub_zero]
  repeat' (first | (refine Qr rfl ?_; try intro _ hK; try simp only [go_sem, *]) | (refine Qi rfl rfl rfl rfl ?_ ?_ <;> (intro hb; (try intro _ hK); have hc := hb; try simp only [go_sem] at hc; simp only [go_sem, *])) | refine Qh rfl ?_ | refine Qd rfl (by kernel_rfl) ?_ | (refine Qc rfl rfl ?_ ?_ <;> (intro hb; have hc := hb; try simp only [go_sem] at hc)) | refine q6 rfl ?_ | (with_reducible (show (∀ _ : AV, _ → _) ∧ _); refine And.intro ?_ ?_; (focus (intro y hy; first | (obtain ⟨z, _, rfl⟩ := List.mem_map.1 (hy); simp [go_sem]; done) | (obtain ⟨z, _, rfl⟩ := List.mem_map.1 (List.mem_of_mem_take hy); simp [go_sem]; done) | (obtain ⟨z, _, rfl⟩ := List.mem_map.1 (List.mem_of_mem_drop hy); simp [go_sem]; done) | (obtain ⟨z, _, rfl⟩ := List.mem_map.1 (List.mem_of_mem_drop (List.mem_of_mem_take hy)); simp [go_sem]; done)))) | (refine Qb ?_ ?_; focus kernel_rfl) | ((with_reducible apply And.intro); focus omega) | (refine z8 hK ?_; clear hK; simp only [go_sem, *]) | simp only [z6, z7, go_sem, *])
  all_goals try contradiction
  refine u3 rfl (i) (fun j => zNL l (q9 s.first) pre i j) 45 (fun j => [(23, iV j), (22, iV i), (21, .list ((l.take i).map (Truth.enc s.first))), (9, .ptr 1 0), (14, iV i), (13, iV l.length), (12, .list (l.map (Truth.enc s.first))), (7, fnV 168), (2, .list (pre.map House.enc)), (1, .list (l.map (Truth.enc s.first))), (0, .ptr 0 0)]) (fun j => [l0 s, .box [.list ((l.getD i default).ways.map iV), .list ((l.getD i default).fin.map y7), .fmap (w5 s.first) (w4 s.first (l.getD i default).now)]]) [some 0, some 1] [] (by exact hP) ?_; intro j hj hQ
  clear hP
  by_cases hj : j < i
  ·have hj3 : (j : Int) < i := by omega
   have hF2 := hF1 j hj
   have hN := zO0 hQ
   have sL2 := sL1 (l.getD j default)
   have sA2 := sA1 (l.getD j default)
   have hgt : (List.map (Truth.enc s.first) (l.take i)).getD j AV.any = (l.getD j default).enc s.first := by
    have : j < l.length := by omega
    simp [List.getD, hj, this]
   have hok : okT l (q9 s.first) pre i j = (!zNC (l.getD i default) (l.getD j default) pre || zNC (l.getD i default) (l.getD j default) (q9 s.first)) := rfl
   generalize zNC (l.getD i default) (l.getD j default) pre = c1 at *
   generalize zNC (l.getD i default) (l.getD j default) (q9 s.first) = c2 at *
   generalize okT l (q9 s.first) pre i j = ok at *
   subst hok
   clear hF1 sL1 sA1
   cases c1 with
   | false =>
    have hN2 := hN rfl
    clear hF2 hN
    repeat' (first | (refine Qr rfl ?_; try intro _ hK; try simp only [go_sem, *]) | (refine Qi rfl rfl rfl rfl ?_ ?_ <;> (intro hb; (try intro _ hK); have hc := hb; try simp only [go_sem] at hc; simp only [go_sem, *])) | refine Qh rfl ?_ | refine Qd rfl (by kernel_rfl) ?_ | (refine Qc rfl rfl ?_ ?_ <;> (intro hb; have hc := hb; try simp only [go_sem] at hc)) | refine q6 rfl ?_ | (refine Qb ?_ ?_; focus kernel_rfl) | (refine zD5 (sL2) ?_ ?_; (focus (simp only [go_sem, *]; done)); simp only [go_sem, *]) | (refine zD5 (sA2) ?_ ?_; (focus (simp only [go_sem, *]; done)); simp only [go_sem, *]) | ((with_reducible apply And.intro); focus omega) | (refine z8 hK ?_; clear hK; simp only [go_sem, *]) | simp only [z6, z7, go_sem, *])
    all_goals try contradiction
    exact u2 (i' := j + 1) [some 0, some 1] [] (by exact hN2)
   | true =>
    cases c2 with
    | true =>
     have hN2 := hN rfl
     clear hF2 hN
     repeat' (first | (refine Qr rfl ?_; try intro _ hK; try simp only [go_sem, *]) | (refine Qi rfl rfl rfl rfl ?_ ?_ <;> (intro hb; (try intro _ hK); have hc := hb; try simp only [go_sem] at hc; simp only [go_sem, *])) | refine Qh rfl ?_ | refine Qd rfl (by kernel_rfl) ?_ | (refine Qc rfl rfl ?_ ?_ <;> (intro hb; have hc := hb; try simp only [go_sem] at hc)) | refine q6 rfl ?_ | (refine Qb ?_ ?_; focus kernel_rfl) | (refine zD5 (sL2) ?_ ?_; (focus (simp only [go_sem, *]; done)); simp only [go_sem, *]) | (refine zD5 (sA2) ?_ ?_; (focus (simp only [go_sem, *]; done)); simp only [go_sem, *]) | ((with_reducible apply And.intro); focus omega) | (refine z8 hK ?_; clear hK; simp only [go_sem, *]) | simp only [z6, z7, go_sem, *])
     all_goals try contradiction
     exact u2 (i' := j + 1) [some 0, some 1] [] (by exact hN2)
    | false =>
     have hS := hF2 rfl
     clear hF2 hN
     subst hS
     repeat' (first | (refine Qr rfl ?_; try intro _ hK; try simp only [go_sem, *]) | (refine Qi rfl rfl rfl rfl ?_ ?_ <;> (intro hb; (try intro _ hK); have hc := hb; try simp only [go_sem] at hc; simp only [go_sem, *])) | refine Qh rfl ?_ | refine Qd rfl (by kernel_rfl) ?_ | (refine Qc rfl rfl ?_ ?_ <;> (intro hb; have hc := hb; try simp only [go_sem] at hc)) | refine q6 rfl ?_ | (refine Qb ?_ ?_; focus kernel_rfl) | (refine zD5 (sL2) ?_ ?_; (focus (simp only [go_sem, *]; done)); simp only [go_sem, *]) | (refine zD5 (sA2) ?_ ?_; (focus (simp only [go_sem, *]; done)); simp only [go_sem, *]) | ((with_reducible apply And.intro); focus omega) | (refine z8 hK ?_; clear hK; simp only [go_sem, *]) | simp only [z6, z7, go_sem, *])
     all_goals try contradiction
     refine ⟨[_], [some 0], [], ⟨rfl, trivial⟩, ?_⟩
     simp only [go_sem, *]
  ·have hj3 : ¬ (j : Int) < i := by omega
   obtain rfl : j = i := by omega
   have hN := zOz hQ
   clear hF1 sL1 sA1
   repeat' (first | (refine Qr rfl ?_; try intro _ hK; try simp only [go_sem, *]) | (refine Qi rfl rfl rfl rfl ?_ ?_ <;> (intro hb; (try intro _ hK); have hc := hb; try simp only [go_sem] at hc; simp only [go_sem, *])) | refine Qh rfl ?_ | refine Qd rfl (by kernel_rfl) ?_ | (refine Qc rfl rfl ?_ ?_ <;> (intro hb; have hc := hb; try simp only [go_sem] at hc)) | refine q6 rfl ?_ | (refine Qb ?_ ?_; focus kernel_rfl) | ((with_reducible apply And.intro); focus omega) | (refine z8 hK ?_; clear hK; simp only [go_sem, *]) | simp only [z6, z7, go_sem, *])
   all_goals try contradiction
   exact u2 (i' := j + 1) [some 0] [] (by exact hN)
 ·have hi3 : ¬ (i : Int) < l.length := by omega
  have hS := hT i (by omega) hP
  clear hF hT sL sA hx
  subst hS
  repeat' (first | (refine Qr rfl ?_; try intro _ hK; try simp only [go_sem, *]) | (refine Qi rfl rfl rfl rfl ?_ ?_ <;> (intro hb; (try intro _ hK); have hc := hb; try simp only [go_sem] at hc; simp only [go_sem, *])) | refine Qh rfl ?_ | refine Qd rfl (by kernel_rfl) ?_ | (refine Qc rfl rfl ?_ ?_ <;> (intro hb; have hc := hb; try simp only [go_sem] at hc)) | refine q6 rfl ?_ | (refine Qb ?_ ?_; focus kernel_rfl) | ((with_reducible apply And.intro); focus omega) | (refine z8 hK ?_; clear hK; simp only [go_sem, *]) | simp only [z6, z7, go_sem, *])
  all_goals try contradiction
  refine ⟨[_], [some 0], [], ⟨rfl, trivial⟩, ?_⟩
  simp only [go_sem, *]
end Go.Abs

namespace Go.Abs
open Go Go.Proofs Tryz
attribute [local irreducible] y6 Hold x8
theorem zPF (s : Story) (o : Told s) (l : List Truth) (hlt : l.length ≤ 1000) (hx : ∀ t, t ∈ l → ∀ h, h ∈ q9 s.first → (t.now h).length ≤ 1000) : ∀ (m start : Nat) (pre : List House), (∀ h, h ∈ pre → h ∈ q9 s.first) → pre.length + m ≤ 1000 → start ≤ (q9 s.first).length →
  zLp prog 118 [.ptr 0 0, .list (l.map (Truth.enc s.first)), .list (pre.map House.enc), iV start, iV m] [l0 s]
   (.tup [.list ((zRn (zNA l (q9 s.first)) (q9 s.first) m ((q9 s.first).length - start) pre).1.map House.enc), bV (zRn (zNA l (q9 s.first)) (q9 s.first) m ((q9 s.first).length - start) pre).2]) [l0 s]
 | 0, start, pre, hh, hp, hs => by
  have sS := zQ1 s o l pre hh (by omega) hlt hx
  rw [zN8]
  refine q8 func118 rfl (fun E hE => ?_); simp only [go_sem, ntmps118]
  repeat' (first | (refine Qr rfl ?_; try intro _ hK; try simp only [go_sem, *]) | refine Qh rfl ?_ | refine Qd rfl (by kernel_rfl) ?_ | (refine Qc rfl rfl ?_ ?_ <;> (intro hb; have hc := hb; try simp only [go_sem] at hc)) | refine q6 rfl ?_ | (refine Qb ?_ ?_; focus kernel_rfl) | (refine Y6 [0] (sS) ?_; simp only [go_sem, *]) | ((with_reducible apply And.intro); focus omega) | (refine z8 hK ?_; clear hK; simp only [go_sem, *]) | simp only [z6, z7, go_sem, *])
  all_goals try contradiction
  refine ⟨[_, _], [some 0], [], ⟨rfl, rfl, trivial⟩, ?_⟩
  simp only [go_sem, *]
 | m + 1, start, pre, hh, hp, hs => by
  have v := o.first
  have hct := v.count
  have IH := zPF s o l hlt hx m
  have sC := zHH pre (by omega)
  obtain ⟨R, hR⟩ : ∃ R, zRn (zNA l (q9 s.first)) (q9 s.first) (m + 1) ((q9 s.first).length - start) pre = R := ⟨_, rfl⟩
  have hst := fun i => zPp (zNA l (q9 s.first)) (q9 s.first) m i pre
  have hno := fun i => zN7 (zNA l (q9 s.first)) (q9 s.first) i (m + 1) pre
  have hin : ∀ i, i < (q9 s.first).length → ∀ h, h ∈ pre ++ [(q9 s.first).getD i default] → h ∈ q9 s.first := fun i hi h hm => by
   rcases List.mem_append.1 hm with hm | hm
   ·exact hh h hm
   ·rw [List.mem_singleton.1 hm]; exact w8 hi
  rw [hR]
  generalize zNA l (q9 s.first) = S at *
  have hbx : l0 s = .box [.list (s.first.map y7), .list (s.steps.map i9), .list (s.facts.map Fact.enc), .list ((q9 s.first).map House.enc)] := rfl
  rw [hbx] at IH ⊢
  generalize q9 s.first = HS at *
  have hw1 : IntKind.i64.wrap (((m + 1 : Nat) : Int) - 1) = (m : Int) := by rw [wrap_i64 (by omega) (by omega)]; omega
  have hz : (((m + 1 : Nat) : Int) == 0) = false := by rw [beq_eq_false_iff_ne]; omega
  obtain ⟨M, hM⟩ : ∃ M, M = m + 1 := ⟨_, rfl⟩
  rw [← hM] at hw1 hz hR hst hno ⊢
  have hM2 : m < M := by omega
  have hM3 : M ≤ 1000 := by omega
  clear hM hbx
  refine q8 func118 rfl (fun E hE => ?_); simp only [go_sem, ntmps118]
  repeat' (first | (refine Qr rfl ?_; try intro _ hK; try simp only [go_sem, *]) | refine Qh rfl ?_ | refine Qd rfl (by kernel_rfl) ?_ | (refine Qc rfl rfl ?_ ?_ <;> (intro hb; have hc := hb; try simp only [go_sem] at hc)) | refine q6 rfl ?_ | (refine Qb ?_ ?_; focus kernel_rfl) | ((with_reducible apply And.intro); focus omega) | (refine z8 hK ?_; clear hK; simp only [go_sem, *]) | simp only [z6, z7, go_sem, *])
  all_goals try contradiction
  refine u4 rfl (HS.length - start) (fun k (i : Nat) => (start + k ≤ i ∧ i ≤ start + k) ∧ zRn S HS M (HS.length - i) pre = R) 57 (fun k i => [(12, iV i), (4, iV M), (2, .list (pre.map House.enc)), (1, .list (l.map (Truth.enc s.first))), (0, .ptr 0 0)]) (fun k i => [.box [.list (s.first.map y7), .list (s.steps.map i9), .list (s.facts.map Fact.enc), .list (HS.map House.enc)]]) [some 0] [] (start) (by exact ⟨⟨Nat.le_refl _, Nat.le_refl _⟩, hR⟩) ?_; intro k i hk hP
  clear hR
  obtain ⟨⟨hik1, hik2⟩, hP⟩ := hP
  have hiM : i ≤ HS.length := by omega
  have hw : IntKind.i64.wrap ((i : Int) + (M : Int)) = (i : Int) + M := wrap_i64 (by omega) (by omega)
  have hw3 : IntKind.i64.wrap ((i : Int) + 1) = ((i + 1 : Nat) : Int) := by rw [wrap_i64 (by omega) (by omega)]; omega
  by_cases hi : i + M ≤ HS.length
  ·have hi3 : (i : Int) + M ≤ HS.length := by omega
   have hi2 : i < HS.length := by omega
   rw [hst i hi2] at hP
   have ih := IH (i + 1) (pre ++ [HS.getD i default]) (hin i hi2) (by simp; omega) (by omega)
   generalize zRn S HS m (HS.length - (i + 1)) (pre ++ [HS.getD i default]) = Q at *
   clear IH hst hno hin
   cases q2 : Q.2 with
   | true =>
    rw [q2, if_pos rfl] at hP
    subst hP
    rw [q2] at ih
    repeat' (first | (refine Qr rfl ?_; try intro _ hK; try simp only [go_sem, *]) | refine Qh rfl ?_ | refine Qd rfl (by kernel_rfl) ?_ | (refine Qc rfl rfl ?_ ?_ <;> (intro hb; have hc := hb; try simp only [go_sem] at hc)) | refine q6 rfl ?_ | (refine Qb ?_ ?_; focus kernel_rfl) | (refine s8 (sC) ?_; simp only [go_sem, *]) | ((with_reducible apply And.intro); focus omega) | (refine z8 hK ?_; clear hK; simp only [go_sem, *]) | simp only [z6, z7, go_sem, *])
    all_goals try contradiction
    refine zBM [0] [3] ih rfl (by simp only [go_sem]) (by simp) ?_ ?_ (by simp [go_sem]) (by simp [go_sem]) ?_
    ·simp only [go_sem, List.map_append, List.map_cons, List.map_nil, *]
     rw [List.take_of_length_le (by simp)]
    ·simp only [go_sem, *]
    simp only [go_sem, v6, *]
    repeat' (first | (refine Qr rfl ?_; try intro _ hK; try simp only [go_sem, *]) | refine Qh rfl ?_ | refine Qd rfl (by kernel_rfl) ?_ | (refine Qc rfl rfl ?_ ?_ <;> (intro hb; have hc := hb; try simp only [go_sem] at hc)) | refine q6 rfl ?_ | (refine Qb ?_ ?_; focus kernel_rfl) | ((with_reducible apply And.intro); focus omega) | (refine z8 hK ?_; clear hK; simp only [go_sem, *]) | simp only [z6, z7, go_sem, *])
    all_goals try contradiction
    refine ⟨[_, _], [some 0], [], ⟨rfl, rfl, trivial⟩, ?_⟩
    simp only [go_sem, *]
   | false =>
    rw [q2, if_neg (by simp)] at hP
    rw [q2] at ih
    repeat' (first | (refine Qr rfl ?_; try intro _ hK; try simp only [go_sem, *]) | refine Qh rfl ?_ | refine Qd rfl (by kernel_rfl) ?_ | (refine Qc rfl rfl ?_ ?_ <;> (intro hb; have hc := hb; try simp only [go_sem] at hc)) | refine q6 rfl ?_ | (refine Qb ?_ ?_; focus kernel_rfl) | (refine s8 (sC) ?_; simp only [go_sem, *]) | ((with_reducible apply And.intro); focus omega) | (refine z8 hK ?_; clear hK; simp only [go_sem, *]) | simp only [z6, z7, go_sem, *])
    all_goals try contradiction
    refine zBM [0] [3] ih rfl (by simp only [go_sem]) (by simp) ?_ ?_ (by simp [go_sem]) (by simp [go_sem]) ?_
    ·simp only [go_sem, List.map_append, List.map_cons, List.map_nil, *]
     rw [List.take_of_length_le (by simp)]
    ·simp only [go_sem, *]
    simp only [go_sem, v6, *]
    repeat' (first | (refine Qr rfl ?_; try intro _ hK; try simp only [go_sem, *]) | refine Qh rfl ?_ | refine Qd rfl (by kernel_rfl) ?_ | (refine Qc rfl rfl ?_ ?_ <;> (intro hb; have hc := hb; try simp only [go_sem] at hc)) | refine q6 rfl ?_ | (refine Qb ?_ ?_; focus kernel_rfl) | ((with_reducible apply And.intro); focus omega) | (refine z8 hK ?_; clear hK; simp only [go_sem, *]) | simp only [z6, z7, go_sem, *])
    all_goals try contradiction
    exact w6 (i' := k + 1) [some 0] [] (i + 1) (by exact ⟨⟨by omega, by omega⟩, hP⟩)
  ·have hi3 : ¬ (i : Int) + M ≤ HS.length := by omega
   rw [hno _ (by omega)] at hP
   subst hP
   clear IH hst hno hin
   repeat' (first | (refine Qr rfl ?_; try intro _ hK; try simp only [go_sem, *]) | refine Qh rfl ?_ | refine Qd rfl (by kernel_rfl) ?_ | (refine Qc rfl rfl ?_ ?_ <;> (intro hb; have hc := hb; try simp only [go_sem] at hc)) | refine q6 rfl ?_ | (refine Qb ?_ ?_; focus kernel_rfl) | ((with_reducible apply And.intro); focus omega) | (refine z8 hK ?_; clear hK; simp only [go_sem, *]) | simp only [z6, z7, go_sem, *])
   all_goals try contradiction
   refine ⟨[_, _], [some 0], [], ⟨rfl, rfl, trivial⟩, ?_⟩
   simp only [go_sem, *]
theorem zPA (s : Story) (h : r9 s = 0) (hl0 : r5 s = []) : zLp prog 69 [s.enc] [] (.tup [.list [], iV 11]) [] := by
 have sa := zAr s h
 rw [hl0] at sa
 refine q8 func69 rfl (fun E hE => ?_); simp only [go_sem, ntmps69]
 repeat' (first | (refine Qr rfl ?_; try intro _ hK; try simp only [go_sem, *]) | refine Qh rfl ?_ | (refine Qc rfl rfl ?_ ?_ <;> (intro hb; have hc := hb; try simp only [go_sem] at hc)) | refine q6 rfl ?_ | (refine s8 (sa) ?_; simp only [go_sem, *]) | ((with_reducible apply And.intro); focus omega) | (refine z8 hK ?_; clear hK; simp only [go_sem, *]) | simp only [z6, z7, go_sem, *])
 all_goals try contradiction
 (refine ⟨[_, _], [], [], ⟨rfl, rfl, trivial⟩, ?_⟩; simp only [go_sem, *])
theorem zPB (s : Story) (h : r9 s = 0) (hne : r5 s ≠ []) (M : Nat) (out : List House) (hM : zRn (zNA (r5 s) (q9 s.first)) (q9 s.first) M (q9 s.first).length [] = (out, true))
  (hmin : ∀ m, m < M → (zRn (zNA (r5 s) (q9 s.first)) (q9 s.first) m (q9 s.first).length []).2 = false) (hMn : M ≤ (q9 s.first).length) :
  zLp prog 69 [s.enc] [] (.tup [.list (out.map House.enc), iV 0]) [] := by
 have o := C2 h
 have v := o.first
 have hct := v.count
 have h3 := o.steps
 have hl := H0 h3 (fun w hw => (o.ways w hw).2.1)
 have sa := zAr s h
 have hsm : ∀ t, t ∈ r5 s → ∀ x, x ∈ q9 s.first → (t.now x).length ≤ 1000 := fun t hm x hx => by have := (zDU v t hm).small h3 hx; omega
 have sf := fun m (hm : m ≤ 1000) => zPF s o (r5 s) (by omega) hsm m 0 [] (by simp) (by simp; exact hm) (Nat.zero_le _)
 simp only [Nat.sub_zero] at sf
 have sm : ∀ m, m < M → ∃ q : List House, zLp prog 118 [.ptr 0 0, .list ((r5 s).map (Truth.enc s.first)), .list [], iV 0, iV m] [l0 s] (.tup [.list (q.map House.enc), bV false]) [l0 s] := fun m hm => by
  have a := sf m (by omega)
  rw [hmin m hm] at a
  exact ⟨_, a⟩
 have sM := sf M (by omega)
 rw [hM] at sM
 have hl0 : (((r5 s).length : Int) == 0) = false := by
  have := List.length_pos_iff.2 hne
  rw [beq_eq_false_iff_ne]; omega
 simp only [List.map_nil] at sM
 clear hM hmin sf hsm hne
 generalize r5 s = l at *
 refine q8 func69 rfl (fun E hE => ?_); simp only [go_sem, ntmps69]
 repeat' (first | (refine Qr rfl ?_; try intro _ hK; try simp only [go_sem, *]) | refine Qh rfl ?_ | (refine Qc rfl rfl ?_ ?_ <;> (intro hb; have hc := hb; try simp only [go_sem] at hc)) | refine q6 rfl ?_ | (refine s8 (sa) ?_; simp only [go_sem, *]) | ((with_reducible apply And.intro); focus omega) | (refine z8 hK ?_; clear hK; simp only [go_sem, *]) | simp only [z6, z7, go_sem, *])
 all_goals try contradiction
 refine u3 rfl (M + 1) (fun k => k ≤ M) 33 (fun k => [(7, iV k), (5, .list (l.map (Truth.enc s.first))), (4, .ptr 0 0)]) (fun k => [l0 s]) [some 1] [] (by exact Nat.zero_le _) ?_; intro k hk hP
 by_cases hk : k < M
 ·obtain ⟨q, s1⟩ := sm k hk
  clear sm sM
  repeat' (first | (refine Qr rfl ?_; try intro _ hK; try simp only [go_sem, *]) | refine Qh rfl ?_ | (refine Qc rfl rfl ?_ ?_ <;> (intro hb; have hc := hb; try simp only [go_sem] at hc)) | refine q6 rfl ?_ | (refine Y6 [0] (s1) ?_; simp only [go_sem, *]) | ((with_reducible apply And.intro); focus omega) | (refine z8 hK ?_; clear hK; simp only [go_sem, *]) | simp only [z6, z7, go_sem, *])
  all_goals try contradiction
  exact u2 (i' := k + 1) [some 0] [] (by omega)
 ·obtain rfl : k = M := by omega
  clear sm
  repeat' (first | (refine Qr rfl ?_; try intro _ hK; try simp only [go_sem, *]) | refine Qh rfl ?_ | (refine Qc rfl rfl ?_ ?_ <;> (intro hb; have hc := hb; try simp only [go_sem] at hc)) | refine q6 rfl ?_ | (refine Y6 [0] (sM) ?_; simp only [go_sem, *]) | ((with_reducible apply And.intro); focus omega) | (refine z8 hK ?_; clear hK; simp only [go_sem, *]) | simp only [z6, z7, go_sem, *])
  all_goals try contradiction
  (refine ⟨[_, _], [], [], ⟨rfl, rfl, trivial⟩, ?_⟩; simp only [go_sem, *])
end Go.Abs

namespace Go.Abs
open Go Go.Proofs Tryz
attribute [local irreducible] y6 Hold x8
@[go_sem, simp] theorem zRX (H : Nat → AObj) (m : List (Option Nat)) (ex : List Nat) (l : List (List Int)) (x y : AV) : XpL H m ex (List.map j4 l ++ [x]) (List.map j4 l ++ [y]) ↔ XpF H m ex x y := zPS H m ex (fun t => t.map iV) l x y
theorem zPP {n m i : Nat} (h : i < n) : zM7 n (m + 1) (n - i) = (zM7 n m (n - (i + 1))).map (fun l => (i : Int) :: l) ++ zM7 n (m + 1) (n - (i + 1)) := by
 obtain ⟨r, hr⟩ : ∃ r, n - (i + 1) = r := ⟨_, rfl⟩
 have e : n - i = r + 1 := by omega
 have e2 : n - (r + 1) = i := by omega
 rw [e, hr, zM7, e2]
theorem zNz {n r m : Nat} (h : r ≤ 24) : (zM7 n m r).length ≤ 16777216 := Nat.le_trans (zOK n r m) (Nat.pow_le_pow_right (by omega) h)
theorem zPM (n : Nat) (hn : n ≤ 24) : ∀ (m start : Nat), m ≤ 24 → start ≤ n →
  zLp prog 119 [iV start, iV n, iV m] [] (.list ((zM7 n m (n - start)).map j4)) []
 | 0, start, hm, hs => by
  rw [zNt]
  refine q8 func119 rfl (fun E hE => ?_); simp only [go_sem, ntmps119]
  repeat' (first | (refine Qr rfl ?_; try intro _ hK; try simp only [go_sem, *]) | refine Qh rfl ?_ | (refine Qc rfl rfl ?_ ?_ <;> (intro hb; have hc := hb; try simp only [go_sem] at hc)) | refine q6 rfl ?_ | ((with_reducible apply And.intro); focus omega) | (refine z8 hK ?_; clear hK; simp only [go_sem, *]) | simp only [z6, z7, go_sem, *])
  all_goals try contradiction
  refine ⟨[.own 0 1 0 1], [], [0], ⟨rfl, trivial⟩, ?_⟩
  simp only [go_sem, *]
 | m + 1, start, hm, hs => by
  have IH := fun i (hi : i + 1 ≤ n) => zPM n hn m (i + 1) (by omega) hi
  have hRl := zNz (n := n) (r := n - start) (m := m + 1) (by omega)
  obtain ⟨R, hR0⟩ : ∃ R, ([] : List (List Int)) ++ zM7 n (m + 1) (n - start) = R := ⟨_, rfl⟩
  have hR1 : zM7 n (m + 1) (n - start) = R := hR0
  rw [hR1] at hRl ⊢
  clear hR1
  have hst := fun i => zPP (n := n) (m := m) (i := i)
  have hno := fun i => zNs n i (m + 1)
  have hw1 : IntKind.i64.wrap (((m + 1 : Nat) : Int) - 1) = (m : Int) := by rw [wrap_i64 (by omega) (by omega)]; omega
  have hz : (((m + 1 : Nat) : Int) == 0) = false := by rw [beq_eq_false_iff_ne]; omega
  obtain ⟨M, hM⟩ : ∃ M, M = m + 1 := ⟨_, rfl⟩
  rw [← hM] at hw1 hz hst hno hR0 ⊢
  have hM2 : m < M := by omega
  have hM3 : M ≤ 24 := by omega
  clear hM
  refine q8 func119 rfl (fun E hE => ?_); simp only [go_sem, ntmps119]
  repeat' (first | (refine Qr rfl ?_; try intro _ hK; try simp only [go_sem, *]) | refine Qh rfl ?_ | (refine Qc rfl rfl ?_ ?_ <;> (intro hb; have hc := hb; try simp only [go_sem] at hc)) | refine q6 rfl ?_ | ((with_reducible apply And.intro); focus omega) | (refine z8 hK ?_; clear hK; simp only [go_sem, *]) | simp only [z6, z7, go_sem, *])
  all_goals try contradiction
  refine O6 rfl (n - start) (fun q (i : Nat) (acc : List (List Int)) => (start + q ≤ i ∧ i ≤ start + q) ∧ acc ++ zM7 n M (n - i) = R) 45 (fun q i acc => [(8, iV i), (7, .own 0 1 0 acc.length), (1, iV n), (2, iV M)]) (fun q i acc => [.box (acc.map j4)]) [none] [] (start) ([]) (by exact ⟨⟨Nat.le_refl _, Nat.le_refl _⟩, hR0⟩) ?_; intro q i acc hq hP
  clear hR0
  obtain ⟨⟨hik1, hik2⟩, hP⟩ := hP
  have hiM : i ≤ n := by omega
  have hw : IntKind.i64.wrap ((i : Int) + (M : Int)) = (i : Int) + M := wrap_i64 (by omega) (by omega)
  have hw3 : IntKind.i64.wrap ((i : Int) + 1) = ((i + 1 : Nat) : Int) := by rw [wrap_i64 (by omega) (by omega)]; omega
  by_cases hi : i + M ≤ n
  ·have hi3 : (i : Int) + M ≤ n := by omega
   rw [hst i (by omega)] at hP
   have ih := IH i (by omega)
   have hWm : ∀ l, l ∈ zM7 n m (n - (i + 1)) → l.length ≤ 24 := fun l hm => by have := (zNi n _ m l (by omega) hm).1; omega
   generalize zM7 n m (n - (i + 1)) = W at *
   generalize hT : zM7 n M (n - (i + 1)) = T at *
   clear IH hst hno
   have hP0 : acc ++ ((W.drop 0).map (fun l => (i : Int) :: l) ++ T) = R := hP
   have hql := congrArg List.length hP
   simp only [List.length_append, List.length_map] at hql
   have hWl : W.length ≤ 16777216 := by omega
   clear hql
   repeat' (first | (refine Qr rfl ?_; try intro _ hK; try simp only [go_sem, *]) | refine Qh rfl ?_ | (refine Qc rfl rfl ?_ ?_ <;> (intro hb; have hc := hb; try simp only [go_sem] at hc)) | refine q6 rfl ?_ | (refine y4 (ih) ?_; simp only [go_sem, *]) | ((with_reducible apply And.intro); focus omega) | (refine z8 hK ?_; clear hK; simp only [go_sem, *]) | simp only [z6, z7, go_sem, *])
   all_goals try contradiction
   clear hP
   refine u4 rfl (W.length) (fun k (ac : List (List Int)) => ac ++ ((W.drop k).map (fun l => (i : Int) :: l) ++ T) = R) 45 (fun k ac => [(10, iV k), (9, .list (W.map j4)), (8, iV i), (7, .own 0 1 0 ac.length), (1, iV n), (2, iV M)]) (fun k ac => [.box (ac.map j4)]) [some 0] [] (acc) (by exact hP0) ?_; intro k ac hk hQ
   clear hP0
   by_cases hk : k < W.length
   ·have hk3 : (k : Int) < W.length := by omega
    rw [u0 hk, List.map_cons] at hQ
    have hql := congrArg List.length hQ
    simp only [List.length_append, List.length_map, List.length_cons] at hql
    have hWk := hWm _ (w8 hk)
    clear hWm
    generalize hw0 : W.getD k default = w at *
    have ht : ∀ a : AV, List.take (1 + w.length) ([a] ++ List.map iV w) = a :: List.map iV w := fun a => List.take_of_length_le (by simp; omega)
    have ht2 : ∀ a : AV, List.take (1 + w.length) (a :: List.map iV w) = a :: List.map iV w := ht
    have ht3 : 1 + w.length ≤ w.length + 1 := by omega
    repeat' (first | (refine Qr rfl ?_; try intro _ hK; try simp only [go_sem, *]) | refine Qh rfl ?_ | (refine Qc rfl rfl ?_ ?_ <;> (intro hb; have hc := hb; try simp only [go_sem] at hc)) | refine q6 rfl ?_ | (with_reducible (show (∀ _ : AV, _ → _) ∧ _); refine And.intro ?_ ?_; (focus (intro y hy; first | (obtain ⟨z, _, rfl⟩ := List.mem_map.1 (hy); simp [go_sem]; done) | (obtain ⟨z, _, rfl⟩ := List.mem_map.1 (List.mem_of_mem_take hy); simp [go_sem]; done) | (obtain ⟨z, _, rfl⟩ := List.mem_map.1 (List.mem_of_mem_drop hy); simp [go_sem]; done) | (obtain ⟨z, _, rfl⟩ := List.mem_map.1 (List.mem_of_mem_drop (List.mem_of_mem_take hy)); simp [go_sem]; done)))) | ((with_reducible apply And.intro); focus omega) | (refine z8 hK ?_; clear hK; simp only [go_sem, *]) | simp only [z6, z7, go_sem, *])
    all_goals try contradiction
    exact w6 (i' := k + 1) [some 4] [2] (ac ++ [(i : Int) :: w]) (by rw [← hQ]; simp)
   ·have hk3 : ¬ (k : Int) < W.length := by omega
    rw [u7 (by omega), List.map_nil, List.nil_append] at hQ
    repeat' (first | (refine Qr rfl ?_; try intro _ hK; try simp only [go_sem, *]) | refine Qh rfl ?_ | (refine Qc rfl rfl ?_ ?_ <;> (intro hb; have hc := hb; try simp only [go_sem] at hc)) | refine q6 rfl ?_ | ((with_reducible apply And.intro); focus omega) | (refine z8 hK ?_; clear hK; simp only [go_sem, *]) | simp only [z6, z7, go_sem, *])
    all_goals try contradiction
    exact Z2 (i' := q + 1) [some 0] [] (i + 1) (ac) (by rw [hT]; exact ⟨⟨by omega, by omega⟩, hQ⟩)
  ·have hi3 : ¬ (i : Int) + M ≤ n := by omega
   rw [hno _ (by omega), List.append_nil] at hP
   subst hP
   clear IH hst hno
   repeat' (first | (refine Qr rfl ?_; try intro _ hK; try simp only [go_sem, *]) | refine Qh rfl ?_ | (refine Qc rfl rfl ?_ ?_ <;> (intro hb; have hc := hb; try simp only [go_sem] at hc)) | refine q6 rfl ?_ | ((with_reducible apply And.intro); focus omega) | (refine z8 hK ?_; clear hK; simp only [go_sem, *]) | simp only [z6, z7, go_sem, *])
   all_goals try contradiction
   refine ⟨[.own 0 1 0 acc.length], [], [0], ⟨rfl, trivial⟩, ?_⟩
   simp only [go_sem, *]
   intro x hx
   obtain ⟨y, _, rfl⟩ := List.mem_map.1 hx
   rfl
theorem zQg (n m : Nat) (hn : n ≤ 24) (hm : m ≤ 24) : zLp prog 70 [iV n, iV m] [] (.list ((zM7 n m n).map j4)) [] := by
 have s1 : zLp prog 119 [iV 0, iV n, iV m] [] (.list ((zM7 n m n).map j4)) [] := zPM n hn m 0 hm (Nat.zero_le _)
 refine q8 func70 rfl (fun E hE => ?_); simp only [go_sem, ntmps70]
 repeat' (first | (refine Qr rfl ?_; try intro _ hK; try simp only [go_sem, *]) | refine Qh rfl ?_ | (refine Qc rfl rfl ?_ ?_ <;> (intro hb; have hc := hb; try simp only [go_sem] at hc)) | refine q6 rfl ?_ | (refine y4 (s1) ?_; simp only [go_sem, *]) | ((with_reducible apply And.intro); focus omega) | (refine z8 hK ?_; clear hK; simp only [go_sem, *]) | simp only [z6, z7, go_sem, *])
 (refine ⟨[_], [], [], ⟨rfl, trivial⟩, ?_⟩; simp only [go_sem, *])
def zNJ (n : Int) : List Int → Nat → Int
 | [], _ => -1
 | x :: r, i => if x = n then i else zNJ n r (i + 1)
theorem zOk (n : Int) : ∀ (l : List Int) (i : Nat), (zNJ n l i ≥ 0) = (n ∈ l)
 | [], i => by simp [zNJ]
 | x :: r, i => by
  rw [zNJ]
  by_cases h : x = n
  ·rw [if_pos h]; simp [h]
  ·rw [if_neg h, zOk n r (i + 1)]; simp [Ne.symm h]
theorem zQd (l : List Int) (n : Int) (h1 : l.length ≤ 4294967296) : zLp prog 71 [j4 l, iV n] [] (iV (zNJ n l 0)) [] := by
 obtain ⟨R, hR⟩ : ∃ R, zNJ n (l.drop 0) 0 = R := ⟨_, rfl⟩
 have hR1 : zNJ n l 0 = R := hR
 rw [hR1]
 clear hR1
 refine q8 func71 rfl (fun E hE => ?_); simp only [go_sem, ntmps71]
 repeat' (first | (refine Qr rfl ?_; try intro _ hK; try simp only [go_sem, *]) | refine Qh rfl ?_ | (refine Qc rfl rfl ?_ ?_ <;> (intro hb; have hc := hb; try simp only [go_sem] at hc)) | refine q6 rfl ?_ | ((with_reducible apply And.intro); focus omega) | (refine z8 hK ?_; clear hK; simp only [go_sem, *]) | simp only [z6, z7, go_sem, *])
 all_goals try contradiction
 refine u3 rfl (l.length) (fun i => zNJ n (l.drop i) i = R) 19 (fun i => [(5, iV i), (0, j4 l), (1, iV n)]) (fun i => []) [] [] (by exact hR) ?_; intro i hi hP
 clear hR
 by_cases hi : i < l.length
 ·have hi3 : (i : Int) < l.length := by omega
  rw [u0 hi, zNJ] at hP
  generalize hz : l.getD i default = z at *
  by_cases hq : z = n
  ·rw [if_pos hq] at hP
   subst hP hq
   repeat' (first | (refine Qr rfl ?_; try intro _ hK; try simp only [go_sem, *]) | refine Qh rfl ?_ | (refine Qc rfl rfl ?_ ?_ <;> (intro hb; have hc := hb; try simp only [go_sem] at hc)) | refine q6 rfl ?_ | ((with_reducible apply And.intro); focus omega) | (refine z8 hK ?_; clear hK; simp only [go_sem, *]) | simp only [z6, z7, go_sem, *])
   all_goals try contradiction
   (refine ⟨[_], [], [], ⟨rfl, trivial⟩, ?_⟩; simp only [go_sem, *])
  ·rw [if_neg hq] at hP
   repeat' (first | (refine Qr rfl ?_; try intro _ hK; try simp only [go_sem, *]) | refine Qh rfl ?_ | (refine Qc rfl rfl ?_ ?_ <;> (intro hb; have hc := hb; try simp only [go_sem] at hc)) | refine q6 rfl ?_ | ((with_reducible apply And.intro); focus omega) | (refine z8 hK ?_; clear hK; simp only [go_sem, *]) | simp only [z6, z7, go_sem, *])
   all_goals try contradiction
   exact u2 (i' := i + 1) [] [] (by exact hP)
 ·have hi3 : ¬ (i : Int) < l.length := by omega
  rw [u7 (by omega), zNJ] at hP
  subst hP
  have hw : IntKind.i64.wrap (-1) = (-1 : Int) := wrap_i64 (by omega) (by omega)
  repeat' (first | (refine Qr rfl ?_; try intro _ hK; try simp only [go_sem, *]) | refine Qh rfl ?_ | (refine Qc rfl rfl ?_ ?_ <;> (intro hb; have hc := hb; try simp only [go_sem] at hc)) | refine q6 rfl ?_ | ((with_reducible apply And.intro); focus omega) | (refine z8 hK ?_; clear hK; simp only [go_sem, *]) | simp only [z6, z7, go_sem, *])
  all_goals try contradiction
  (refine ⟨[_], [], [], ⟨rfl, trivial⟩, ?_⟩; simp only [go_sem, *])
end Go.Abs

namespace Go.Abs
open Go Go.Proofs Tryz
attribute [local irreducible] y6 Hold x8
def DueTo (hs : List House) (l : List Int) (j : Nat) (acc : List House) : Prop := acc = zM6 hs (l.take j)
theorem DueTo.next {hs : List House} {l : List Int} {j n : Nat} {acc : List House} (h : DueTo hs l j acc) (hj : j < l.length) (hn : l.getD j default = n) : DueTo hs l (j + 1) (acc ++ [hs.getD n default]) := by
 unfold DueTo at *
 rw [Z8 hj, hn, h]
 simp [zM6]
theorem DueTo.len {hs : List House} {l : List Int} {j : Nat} {acc : List House} (h : DueTo hs l j acc) : acc.length ≤ l.length := by
 unfold DueTo at h
 rw [h, zM6, List.length_map, List.length_take]; omega
theorem zRg (nums : List Int) (h : nums.length ≤ 4294967296) : zLp prog 16 [j4 nums] [] (bV true) [] := by
 have s1 := zLT nums
 have s2 := zLV (zCU nums) 3 2 3 0 h (by omega) (by omega) (by omega) (by omega)
 have sm := zLf (d := zCU nums) (houses := 3) (steps := 2) (ways := 3) (facts := 0) (by omega) (by omega) (by omega) (by omega)
 generalize R0 (zCU nums) 3 2 3 0 = S at *
 obtain ⟨s, d1⟩ := S
 simp only at s2 sm
 have o := sm.told
 have v := o.first
 have hct := v.count
 have h3 := o.steps
 have hl := H0 o.steps (fun w hw => (o.ways w hw).2.1)
 have sH := zHU s.first (by have := v.len; omega) (fun l hl => by have := (v.rows l hl).len; omega) (by omega)
 have sA := zQk s o
 have hsm : ∀ t, t ∈ r5 s → ∀ x, x ∈ q9 s.first → (t.now x).length ≤ 1000 := fun t hm x hx => by have := (zDU v t hm).small h3 hx; omega
 have sw := zLc
 have st0 := zPA s (zLj o)
 obtain ⟨M, out, hM⟩ := zOm (zNA (r5 s) (q9 s.first)) (q9 s.first) (zO3 _ _)
 have st := fun hne => zPB s (zLj o) hne M out hM.hit hM.min hM.le
 clear sm h
 generalize r5 s = L at *
 generalize q9 s.first = H at *
 by_cases hne : L = []
 ·have st1 := st0 hne
  subst hne
  clear st st0
  refine q8 func16 rfl (fun E hE => ?_); simp only [go_sem, ntmps16]
  repeat' (first | (refine Qr rfl ?_; try intro _ hK; try simp only [go_sem, *]) | (refine Qi rfl rfl rfl rfl ?_ ?_ <;> (intro hb; (try intro _ hK); have hc := hb; try simp only [go_sem] at hc; simp only [go_sem, *])) | refine Qh rfl ?_ | refine Qd rfl (by kernel_rfl) ?_ | (refine Qc rfl rfl ?_ ?_ <;> (intro hb; have hc := hb; try simp only [go_sem] at hc)) | refine q6 rfl ?_ | (refine Qb ?_ ?_; focus kernel_rfl) | ((first | refine y4 (sA) ?_ | refine y4 (st1) ?_ | refine y4 (sw) ?_); simp only [go_sem, *]) | (refine s8 (s1) ?_; simp only [go_sem, *]) | (refine Y6 [0] (s2) ?_; simp only [go_sem, *]) | (refine s8 (sH) ?_; simp only [go_sem, *]) | ((with_reducible apply And.intro); focus omega) | (refine z8 hK ?_; clear hK; simp only [go_sem, *]) | simp only [z6, z7, go_sem, *])
  all_goals try contradiction
  (refine ⟨[_], [], [], ⟨rfl, trivial⟩, ?_⟩; simp only [go_sem, *])
 have st1 := st hne
 have hl0 : ((L.length : Int) == 0) = false := by
  have := List.length_pos_iff.2 hne
  rw [beq_eq_false_iff_ne]; omega
 clear st st0 hne
 refine q8 func16 rfl (fun E hE => ?_); simp only [go_sem, ntmps16]
 repeat' (first | (refine Qr rfl ?_; try intro _ hK; try simp only [go_sem, *]) | (refine Qi rfl rfl rfl rfl ?_ ?_ <;> (intro hb; (try intro _ hK); have hc := hb; try simp only [go_sem] at hc; simp only [go_sem, *])) | refine Qh rfl ?_ | refine Qd rfl (by kernel_rfl) ?_ | (refine Qc rfl rfl ?_ ?_ <;> (intro hb; have hc := hb; try simp only [go_sem] at hc)) | refine q6 rfl ?_ | (refine Qb ?_ ?_; focus kernel_rfl) | ((first | refine y4 (sA) ?_ | refine y4 (st1) ?_); simp only [go_sem, *]) | (refine s8 (s1) ?_; simp only [go_sem, *]) | (refine Y6 [0] (s2) ?_; simp only [go_sem, *]) | (refine s8 (sH) ?_; simp only [go_sem, *]) | ((with_reducible apply And.intro); focus omega) | (refine z8 hK ?_; clear hK; simp only [go_sem, *]) | simp only [z6, z7, go_sem, *])
 all_goals try contradiction
 clear s1 s2 sH sA st1 hl0
 have hMn := hM.le
 refine u3 rfl (H.length + 1) (fun k => k ≤ M) 152 (fun k => [(9, iV k), (8, iV 0), (7, Q3 out), (5, .list (L.map fun t => .list (zRt H t.now))), (4, Q3 H)]) (fun k => []) [] [2] (by exact Nat.zero_le _) ?_; intro k hk hP
 by_cases hk : k ≤ H.length
 ·have hk3 : (k : Int) ≤ H.length := by omega
  have sS := zQg H.length k (by omega) (by omega)
  have hWb : ∀ l, l ∈ zM7 H.length k H.length → l.length = k ∧ ∀ j, j ∈ l → 0 ≤ j ∧ j < H.length := fun l hl => zNi _ _ _ l (Nat.le_refl _) hl
  have hWl := zNz (n := H.length) (r := H.length) (m := k) (by omega)
  have hyes := fun i => hM.yes (i := i) hP
  have hno := hM.no hP
  generalize zM7 H.length k H.length = W at *
  repeat' (first | (refine Qr rfl ?_; try intro _ hK; try simp only [go_sem, *]) | (refine Qi rfl rfl rfl rfl ?_ ?_ <;> (intro hb; (try intro _ hK); have hc := hb; try simp only [go_sem] at hc; simp only [go_sem, *])) | refine Qh rfl ?_ | refine Qd rfl (by kernel_rfl) ?_ | (refine Qc rfl rfl ?_ ?_ <;> (intro hb; have hc := hb; try simp only [go_sem] at hc)) | refine q6 rfl ?_ | (refine Qb ?_ ?_; focus kernel_rfl) | (refine y4 (sS) ?_; simp only [go_sem, *]) | ((with_reducible apply And.intro); focus omega) | (refine z8 hK ?_; clear hK; simp only [go_sem, *]) | simp only [z6, z7, go_sem, *])
  all_goals try contradiction
  clear sS hM
  refine u3 rfl (W.length) (fun i => ∀ j, j < i → zNA L H (zM6 H (W.getD j default)) = false) 152 (fun i => [(11, iV i), (10, .list (W.map j4)), (9, iV k), (8, iV 0), (7, Q3 out), (5, .list (L.map fun t => .list (zRt H t.now))), (4, Q3 H)]) (fun i => []) [] [] (by exact fun j hj => by omega) ?_; intro i hi hQ
  by_cases hi : i < W.length
  ·have hi3 : (i : Int) < W.length := by omega
   have hm := w8 hi
   obtain ⟨hwl, hwb⟩ := hWb _ hm
   have hy := hyes i hi hQ
   have hfe : zNU L H (zM6 H (W.getD i default)) L.length = zNA L H (zM6 H (W.getD i default)) := rfl
   generalize hF : zNA L H (zM6 H (W.getD i default)) = F at *
   clear hyes hno hWb
   repeat' (first | (refine Qr rfl ?_; try intro _ hK; try simp only [go_sem, *]) | (refine Qi rfl rfl rfl rfl ?_ ?_ <;> (intro hb; (try intro _ hK); have hc := hb; try simp only [go_sem] at hc; simp only [go_sem, *])) | refine Qh rfl ?_ | refine Qd rfl (by kernel_rfl) ?_ | (refine Qc rfl rfl ?_ ?_ <;> (intro hb; have hc := hb; try simp only [go_sem] at hc)) | refine q6 rfl ?_ | (refine Qb ?_ ?_; focus kernel_rfl) | ((with_reducible apply And.intro); focus omega) | (refine z8 hK ?_; clear hK; simp only [go_sem, *]) | simp only [z6, z7, go_sem, *])
   all_goals try contradiction
   refine u4 rfl (L.length) (fun a (f : Bool) => zNU L H (zM6 H (W.getD i default)) a = f) 152 (fun a f => [(13, iV a), (12, bV f), (11, iV i), (10, .list (W.map j4)), (9, iV k), (8, iV 0), (7, Q3 out), (5, .list (L.map fun t => .list (zRt H t.now))), (4, Q3 H)]) (fun a f => []) [] [] (true) (by rfl) ?_; intro a f ha hA
   by_cases ha : a < L.length
   ·have ha3 : (a : Int) < L.length := by omega
    have hxl := hsm _ (w8 ha)
    clear hy hfe hQ
    repeat' (first | (refine Qr rfl ?_; try intro _ hK; try simp only [go_sem, *]) | (refine Qi rfl rfl rfl rfl ?_ ?_ <;> (intro hb; (try intro _ hK); have hc := hb; try simp only [go_sem] at hc; simp only [go_sem, *])) | refine Qh rfl ?_ | refine Qd rfl (by kernel_rfl) ?_ | (refine Qc rfl rfl ?_ ?_ <;> (intro hb; have hc := hb; try simp only [go_sem] at hc)) | refine q6 rfl ?_ | (refine Qb ?_ ?_; focus kernel_rfl) | ((with_reducible apply And.intro); focus omega) | (refine z8 hK ?_; clear hK; simp only [go_sem, *]) | simp only [z6, z7, go_sem, *])
    all_goals try contradiction
    refine u4 rfl (a) (fun b (f2 : Bool) => (zNU L H (zM6 H (W.getD i default)) a && zNV L H (zM6 H (W.getD i default)) a b) = f2) 152 (fun b f2 => [(14, iV b), (13, iV a), (12, bV f2), (11, iV i), (10, .list (W.map j4)), (9, iV k), (8, iV 0), (7, Q3 out), (5, .list (L.map fun t => .list (zRt H t.now))), (4, Q3 H)]) (fun b f2 => []) [] [] (f) (by rw [hA]; cases f <;> rfl) ?_; intro b f2 hb hB
    clear hA
    by_cases hb0 : b < a
    ·have hb3 : (b : Int) < a := by omega
     have hbL : b < L.length := by omega
     repeat' (first | (refine Qr rfl ?_; try intro _ hK; try simp only [go_sem, *]) | (refine Qi rfl rfl rfl rfl ?_ ?_ <;> (intro hb; (try intro _ hK); have hc := hb; try simp only [go_sem] at hc; simp only [go_sem, *])) | refine Qh rfl ?_ | refine Qd rfl (by kernel_rfl) ?_ | (refine Qc rfl rfl ?_ ?_ <;> (intro hb; have hc := hb; try simp only [go_sem] at hc)) | refine q6 rfl ?_ | (refine Qb ?_ ?_; focus kernel_rfl) | ((with_reducible apply And.intro); focus omega) | (refine z8 hK ?_; clear hK; simp only [go_sem, *]) | simp only [z6, z7, go_sem, *])
     all_goals try contradiction
     refine O6 rfl (H.length) (fun q (sm : Bool) (al : Bool) => zNg (L.getD a default) (L.getD b default) H (W.getD i default) q = sm ∧ zNc (L.getD a default) (L.getD b default) H q = al) 152 (fun q sm al => [(17, iV q), (16, bV al), (15, bV sm), (14, iV b), (13, iV a), (12, bV f2), (11, iV i), (10, .list (W.map j4)), (9, iV k), (8, iV 0), (7, Q3 out), (5, .list (L.map fun t => .list (zRt H t.now))), (4, Q3 H)]) (fun q sm al => []) [] [] (true) (true) (by exact ⟨rfl, rfl⟩) ?_; intro q sm al hq hS
     obtain ⟨hS1, hS2⟩ := hS
     by_cases hq : q < H.length
     ·have hq3 : (q : Int) < H.length := by omega
      have hx1 := hxl _ (w8 hq)
      have sE := zHN ((L.getD a default).now (H.getD q default)) ((L.getD b default).now (H.getD q default)) (by omega)
      have sI := zQd (W.getD i default) (q : Int) (by omega)
      have hmq := zOk (q : Int) (W.getD i default) 0
      have hn1 := zQW (L.getD a default) (L.getD b default) H (W.getD i default) q
      have hn2 := zPY (L.getD a default) (L.getD b default) H q
      rw [hS1] at hn1
      rw [hS2] at hn2
      generalize zNJ (q : Int) (W.getD i default) 0 = z at *
      generalize decide ((L.getD a default).now (H.getD q default) = (L.getD b default).now (H.getD q default)) = e at *
      clear hxl hS1 hS2 hx1 hB
      by_cases hm : (q : Int) ∈ W.getD i default
      ·have hz : z ≥ 0 := by rw [hmq]; exact hm
       rw [decide_eq_true hm] at hn1
       clear hmq hm
       obtain ⟨s2, hs2⟩ : ∃ s2, s2 = (sm && (!true || e)) := ⟨_, rfl⟩
       obtain ⟨a2, ha2⟩ : ∃ a2, a2 = (al && e) := ⟨_, rfl⟩
       rw [← hs2] at hn1
       rw [← ha2] at hn2
       cases al <;> cases sm <;> (
        repeat' (first | (refine Qr rfl ?_; try intro _ hK; try simp only [go_sem, *]) | (refine Qi rfl rfl rfl rfl ?_ ?_ <;> (intro hb; (try intro _ hK); have hc := hb; try simp only [go_sem] at hc; simp only [go_sem, *])) | refine Qh rfl ?_ | refine Qd rfl (by kernel_rfl) ?_ | (refine Qc rfl rfl ?_ ?_ <;> (intro hb; have hc := hb; try simp only [go_sem] at hc)) | refine q6 rfl ?_ | (refine Qb ?_ ?_; focus kernel_rfl) | ((first | refine y4 (sE) ?_ | refine y4 (sI) ?_); simp only [go_sem, *]) | ((with_reducible apply And.intro); focus omega) | (refine z8 hK ?_; clear hK; simp only [go_sem, *]) | simp only [z6, z7, go_sem, *])
        all_goals try contradiction
        exact Z2 (i' := q + 1) [] [] (s2) (a2) (by exact ⟨hn1, hn2⟩))
      ·have hz : ¬ z ≥ 0 := by rw [hmq]; exact hm
       rw [decide_eq_false hm] at hn1
       clear hmq hm
       obtain ⟨s2, hs2⟩ : ∃ s2, s2 = (sm && (!false || e)) := ⟨_, rfl⟩
       obtain ⟨a2, ha2⟩ : ∃ a2, a2 = (al && e) := ⟨_, rfl⟩
       rw [← hs2] at hn1
       rw [← ha2] at hn2
       cases al <;> (
        repeat' (first | (refine Qr rfl ?_; try intro _ hK; try simp only [go_sem, *]) | (refine Qi rfl rfl rfl rfl ?_ ?_ <;> (intro hb; (try intro _ hK); have hc := hb; try simp only [go_sem] at hc; simp only [go_sem, *])) | refine Qh rfl ?_ | refine Qd rfl (by kernel_rfl) ?_ | (refine Qc rfl rfl ?_ ?_ <;> (intro hb; have hc := hb; try simp only [go_sem] at hc)) | refine q6 rfl ?_ | (refine Qb ?_ ?_; focus kernel_rfl) | ((first | refine y4 (sE) ?_ | refine y4 (sI) ?_); simp only [go_sem, *]) | ((with_reducible apply And.intro); focus omega) | (refine z8 hK ?_; clear hK; simp only [go_sem, *]) | simp only [z6, z7, go_sem, *])
        all_goals try contradiction
        exact Z2 (i' := q + 1) [] [] (s2) (a2) (by exact ⟨hn1, hn2⟩))
     ·have hq3 : ¬ (q : Int) < H.length := by omega
      obtain rfl : q = H.length := by omega
      rw [zQV _ _ _ _ hwb] at hS1
      rw [zPX] at hS2
      have hn := zPt L H (zM6 H (W.getD i default)) a b
      have hok : okT L H (zM6 H (W.getD i default)) a b = (!sm || al) := by rw [← hS1, ← hS2]; rfl
      rw [hok] at hn
      obtain ⟨f3, hf3⟩ : ∃ f3, f3 = (f2 && (!sm || al)) := ⟨_, rfl⟩
      have hB2 : (zNU L H (zM6 H (W.getD i default)) a && zNV L H (zM6 H (W.getD i default)) a (b + 1)) = f3 := by rw [hn, ← Bool.and_assoc, hB, hf3]
      clear hB hn hok hS1 hS2 hxl
      cases f2 <;> cases sm <;> (
       repeat' (first | (refine Qr rfl ?_; try intro _ hK; try simp only [go_sem, *]) | (refine Qi rfl rfl rfl rfl ?_ ?_ <;> (intro hb; (try intro _ hK); have hc := hb; try simp only [go_sem] at hc; simp only [go_sem, *])) | refine Qh rfl ?_ | refine Qd rfl (by kernel_rfl) ?_ | (refine Qc rfl rfl ?_ ?_ <;> (intro hb; have hc := hb; try simp only [go_sem] at hc)) | refine q6 rfl ?_ | (refine Qb ?_ ?_; focus kernel_rfl) | ((with_reducible apply And.intro); focus omega) | (refine z8 hK ?_; clear hK; simp only [go_sem, *]) | simp only [z6, z7, go_sem, *])
       all_goals try contradiction
       exact w6 (i' := b + 1) [] [] (f3) (by exact hB2))
    ·have hb3 : ¬ (b : Int) < a := by omega
     obtain rfl : b = a := by omega
     have hn := zPs L H (zM6 H (W.getD i default)) b
     rw [hB] at hn
     clear hB hxl
     repeat' (first | (refine Qr rfl ?_; try intro _ hK; try simp only [go_sem, *]) | (refine Qi rfl rfl rfl rfl ?_ ?_ <;> (intro hb; (try intro _ hK); have hc := hb; try simp only [go_sem] at hc; simp only [go_sem, *])) | refine Qh rfl ?_ | refine Qd rfl (by kernel_rfl) ?_ | (refine Qc rfl rfl ?_ ?_ <;> (intro hb; have hc := hb; try simp only [go_sem] at hc)) | refine q6 rfl ?_ | (refine Qb ?_ ?_; focus kernel_rfl) | ((with_reducible apply And.intro); focus omega) | (refine z8 hK ?_; clear hK; simp only [go_sem, *]) | simp only [z6, z7, go_sem, *])
     all_goals try contradiction
     exact w6 (i' := b + 1) [] [] (f2) (by exact hn)
   ·have ha3 : ¬ (a : Int) < L.length := by omega
    obtain rfl : a = L.length := by omega
    rw [hfe] at hA
    cases f with
    | false =>
     clear hy hfe
     repeat' (first | (refine Qr rfl ?_; try intro _ hK; try simp only [go_sem, *]) | (refine Qi rfl rfl rfl rfl ?_ ?_ <;> (intro hb; (try intro _ hK); have hc := hb; try simp only [go_sem] at hc; simp only [go_sem, *])) | refine Qh rfl ?_ | refine Qd rfl (by kernel_rfl) ?_ | (refine Qc rfl rfl ?_ ?_ <;> (intro hb; have hc := hb; try simp only [go_sem] at hc)) | refine q6 rfl ?_ | (refine Qb ?_ ?_; focus kernel_rfl) | ((with_reducible apply And.intro); focus omega) | (refine z8 hK ?_; clear hK; simp only [go_sem, *]) | simp only [z6, z7, go_sem, *])
     all_goals try contradiction
     exact u2 (i' := i + 1) [] [] (by intro j hj; rcases Nat.lt_or_ge j i with h | h; exact hQ j h; obtain rfl : j = i := (by omega); rw [hF]; exact hA)
    | true =>
     have ho := hy hA
     clear hy hfe hA hQ
     subst ho
     clear hF hm
     generalize hls : W.getD i default = ls at *
     repeat' (first | (refine Qr rfl ?_; try intro _ hK; try simp only [go_sem, *]) | (refine Qi rfl rfl rfl rfl ?_ ?_ <;> (intro hb; (try intro _ hK); have hc := hb; try simp only [go_sem] at hc; simp only [go_sem, *])) | refine Qh rfl ?_ | refine Qd rfl (by kernel_rfl) ?_ | (refine Qc rfl rfl ?_ ?_ <;> (intro hb; have hc := hb; try simp only [go_sem] at hc)) | refine q6 rfl ?_ | (refine Qb ?_ ?_; focus kernel_rfl) | ((with_reducible apply And.intro); focus omega) | (refine z8 hK ?_; clear hK; simp only [go_sem, *]) | simp only [z6, z7, go_sem, *])
     all_goals try contradiction
     refine u4 rfl (k) (fun j (acc : List House) => DueTo H ls j acc) 152 (fun j acc => [(20, iV j), (19, .own 0 3 0 acc.length), (11, iV i), (10, .list (W.map j4)), (9, iV k), (8, iV 0), (7, Q3 (zM6 H ls)), (5, .list (L.map fun t => .list (zRt H t.now))), (4, Q3 H)]) (fun j acc => [.row 3 (acc.map House.enc)]) [none] [] ([]) (by rfl) ?_; intro j acc hj hD
     have hcj := hD.len
     by_cases hj : j < k
     ·have hj3 : (j : Int) < k := by omega
      obtain ⟨hz0, hz1⟩ := hwb _ (w8 (l := ls) (i := j) (by omega))
      obtain ⟨n, hn⟩ : ∃ n : Nat, ls.getD j default = n := ⟨(ls.getD j default).toNat, by omega⟩
      have hnH : n < H.length := by omega
      have hN := hD.next (by omega) hn
      clear hz0 hz1
      repeat' (first | (refine Qr rfl ?_; try intro _ hK; try simp only [go_sem, *]) | (refine Qi rfl rfl rfl rfl ?_ ?_ <;> (intro hb; (try intro _ hK); have hc := hb; try simp only [go_sem] at hc; simp only [go_sem, *])) | refine Qh rfl ?_ | refine Qd rfl (by kernel_rfl) ?_ | (refine Qc rfl rfl ?_ ?_ <;> (intro hb; have hc := hb; try simp only [go_sem] at hc)) | refine q6 rfl ?_ | (refine Qb ?_ ?_; focus kernel_rfl) | ((with_reducible apply And.intro); focus omega) | (refine z8 hK ?_; clear hK; simp only [go_sem, *]) | simp only [z6, z7, go_sem, *])
      all_goals try contradiction
      exact w6 (i' := j + 1) [some 2] [] (acc ++ [H.getD n default]) (by exact hN)
     ·have hj3 : ¬ (j : Int) < k := by omega
      have e3 : acc = zM6 H ls := by rw [hD, List.take_of_length_le (by omega)]
      rw [← e3]
      have sE := zHN acc acc (by omega)
      rw [decide_eq_true rfl] at sE
      clear e3
      repeat' (first | (refine Qr rfl ?_; try intro _ hK; try simp only [go_sem, *]) | (refine Qi rfl rfl rfl rfl ?_ ?_ <;> (intro hb; (try intro _ hK); have hc := hb; try simp only [go_sem] at hc; simp only [go_sem, *])) | refine Qh rfl ?_ | refine Qd rfl (by kernel_rfl) ?_ | (refine Qc rfl rfl ?_ ?_ <;> (intro hb; have hc := hb; try simp only [go_sem] at hc)) | refine q6 rfl ?_ | (refine Qb ?_ ?_; focus kernel_rfl) | (refine o7 (sE) ?_ rfl ?_ ?_ ?_ ?_; (iterate 2 (focus (simp only [go_sem, *]; done))); (iterate 2 (focus (first | (simp; done) | (simp [go_sem]; done)))); simp only [go_sem, v6, *]) | (refine y4 (sw) ?_; simp only [go_sem, *]) | ((with_reducible apply And.intro); focus omega) | (refine z8 hK ?_; clear hK; simp only [go_sem, *]) | simp only [z6, z7, go_sem, *])
      all_goals try contradiction
      (refine ⟨[_], [], [], ⟨rfl, trivial⟩, ?_⟩; simp only [go_sem, *])
  ·have hi3 : ¬ (i : Int) < W.length := by omega
   have hno1 := hno (fun j hj => hQ j (by omega))
   clear hyes hno hWb hQ
   repeat' (first | (refine Qr rfl ?_; try intro _ hK; try simp only [go_sem, *]) | (refine Qi rfl rfl rfl rfl ?_ ?_ <;> (intro hb; (try intro _ hK); have hc := hb; try simp only [go_sem] at hc; simp only [go_sem, *])) | refine Qh rfl ?_ | refine Qd rfl (by kernel_rfl) ?_ | (refine Qc rfl rfl ?_ ?_ <;> (intro hb; have hc := hb; try simp only [go_sem] at hc)) | refine q6 rfl ?_ | (refine Qb ?_ ?_; focus kernel_rfl) | ((with_reducible apply And.intro); focus omega) | (refine z8 hK ?_; clear hK; simp only [go_sem, *]) | simp only [z6, z7, go_sem, *])
   all_goals try contradiction
   exact u2 (i' := k + 1) [] [] (by exact hno1)
 ·exfalso; omega
end Go.Abs

