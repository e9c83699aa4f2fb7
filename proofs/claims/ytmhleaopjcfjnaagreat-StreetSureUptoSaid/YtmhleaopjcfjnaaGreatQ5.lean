/-
  WHAT THE PROOF STANDS ON, PART 5: contracts of the program's functions and the logic that they are proved in. No condition.
-/
import Derived.Shelf.SlLaysF0
import Derived.Test.YtmhleaopjcfjnaaGreatProg
import Derived.Shelf.SlSortCmp.NoneTotal
import Derived.Scope
import Derived.Test.YtmhleaopjcfjnaaGreatQ4
set_option maxRecDepth 100000
set_option maxHeartbeats 4000000
set_option linter.unusedVariables false
set_option linter.unusedSimpArgs false
set_option linter.unusedSectionVars false
namespace Go.Abs
open Go Go.Proofs Tryz
attribute [local irreducible] y6 Hold x7
end Go.Abs

namespace Go.Abs
open Go
def suf (s : Story) : Nat → Nat → List (List Int)
 | 0, _ => [[]]
 | n + 1, k => (List.range' 0 (v6 s k).length).flatMap fun (i : Nat) => (suf s n (k + 1)).map fun r => (i : Int) :: r
def zRm (s : Story) (n k i : Nat) : List (List Int) := (List.range' i ((v6 s k).length - i)).flatMap fun (i : Nat) => (suf s n (k + 1)).map fun r => (i : Int) :: r
theorem zOi {α β : Type} {f : α → List β} {N : Nat} : ∀ {l : List α}, (∀ a, a ∈ l → (f a).length ≤ N) → (l.flatMap f).length ≤ l.length * N
 | [], _ => by simp
 | a :: r, h => by
  have h1 := h a (by simp)
  have h2 := zOi (l := r) (fun b hb => h b (by simp [hb]))
  rw [List.flatMap_cons, List.length_append, List.length_cons, Nat.succ_mul]; omega
theorem zON {s : Story} : ∀ n k w, w ∈ suf s n k → w.length = n ∧ ∀ j, j < n → 0 ≤ w.getD j 0 ∧ w.getD j 0 < (v6 s (k + j)).length
 | 0, k, w, h => by
  rw [suf] at h
  rw [List.mem_singleton.1 h]
  exact ⟨rfl, fun j hj => by omega⟩
 | n + 1, k, w, h => by
  rw [suf] at h
  obtain ⟨i, hi, h⟩ := List.mem_flatMap.1 h
  obtain ⟨r, hr, rfl⟩ := List.mem_map.1 h
  obtain ⟨h1, h2⟩ := zON n (k + 1) r hr
  have hi2 := List.mem_range'.1 hi
  obtain ⟨z, hz, rfl⟩ := hi2
  refine ⟨by simp [h1], fun j hj => ?_⟩
  cases j with
  | zero => simp; omega
  | succ j =>
   have := h2 j (by omega)
   rw [show k + (j + 1) = k + 1 + j by omega]
   simpa using this
def zRt (s : Story) (t : Truth) (i : Int) : Change := (v6 s t.ways.length).getD i.toNat default
def zRq (s : Story) : List Int → Truth → Option Truth
 | [], t => some t
 | i :: r, t => if can t.fin (zRt s t i) = 0 then zRq s r (n0 t (zRt s t i) i.toNat) else none
theorem zOy {s : Story} {i : Int} {r : List Int} {t : Truth} (h : can t.fin (zRt s t i) = 0) : zRq s (i :: r) t = zRq s r (n0 t (zRt s t i) i.toNat) := by rw [zRq, if_pos h]
theorem zOx {s : Story} {i : Int} {r : List Int} {t : Truth} (h : ¬ can t.fin (zRt s t i) = 0) : zRq s (i :: r) t = none := by rw [zRq, if_neg h]
theorem zPP (t : Truth) (c : Change) (i : Nat) : (n0 t c i).ways.length = t.ways.length + 1 := by simp [n0]
theorem zOl {s : Story} : ∀ (n : Nat) (t : Truth), l4 s n t = (suf s n t.ways.length).filterMap fun w => zRq s w t
 | 0, t => by simp [l4, suf, zRq]
 | n + 1, t => by
  rw [l4, suf]
  generalize List.range' 0 (v6 s t.ways.length).length = L
  induction L with
  | nil => rfl
  | cons i r ih =>
   rw [List.flatMap_cons, List.flatMap_cons, List.filterMap_append, ih]
   congr 1
   rw [List.filterMap_map]
   have hc : zRt s t (i : Int) = (v6 s t.ways.length).getD i default := rfl
   split
   ·rename_i h
    rw [zOl n, zPP]
    refine congrFun (congrArg _ (funext fun w => ?_)) _
    exact (zOy (i := (i : Int)) (r := w) (t := t) (by rw [hc]; exact h)).symm
   ·rename_i h
    symm
    rw [List.filterMap_eq_nil_iff]
    intro w _
    exact zOx (i := (i : Int)) (r := w) (t := t) (by rw [hc]; exact h)
theorem zOz {s : Story} : ∀ {w : List Int} {t x : Truth}, (∀ i, i ∈ w → 0 ≤ i) → zRq s w t = some x → x.ways = t.ways ++ w
 | [], t, x, _, h => by
  rw [zRq] at h
  cases h; simp
 | i :: r, t, x, hw, h => by
  rw [zRq] at h
  split at h
  ·have e := zOz (fun j hj => hw j (by simp [hj])) h
   have hi := hw i (by simp)
   rw [e]
   simp only [n0, List.append_assoc, List.singleton_append]
   rw [Int.toNat_of_nonneg hi]
  ·cases h
def zRc (s : Story) (w : List Int) : Bool := match zRq s w (X0 s) with
 | some t => f7 s.facts t
 | none => false
def zOb (s : Story) : List (List Int) := suf s s.steps.length 0
theorem zQN {s : Story} {n k : Nat} {w : List Int} (h : w ∈ suf s n k) : ∀ i, i ∈ w → 0 ≤ i := fun i hi => by
 obtain ⟨h1, h2⟩ := zON n k w h
 obtain ⟨j, hj, rfl⟩ := List.getElem_of_mem hi
 have := (h2 j (by omega)).1
 simpa [List.getD, hj] using this
theorem zNl {s : Story} {t : Truth} (h : t ∈ r6 s) : t.ways ∈ zOb s ∧ zRq s t.ways (X0 s) = some t := by
 rw [← zI6] at h
 have h1 := (List.mem_filter.1 h).1
 unfold B6 at h1
 rw [zOl] at h1
 obtain ⟨w, hw, e⟩ := List.mem_filterMap.1 h1
 have ew := zOz (zQN hw) e
 have ew2 : t.ways = w := by rw [ew]; rfl
 rw [ew2]
 exact ⟨hw, e⟩
end Go.Abs

namespace Go.Abs
open Go
def zND (xs : List House) : Nat → List House
 | 0 => []
 | p + 1 => if 0 < p ∧ xs.getD p default = xs.getD (p - 1) default then zND xs p else zND xs p ++ [xs.getD p default]
theorem zN7 {xs : List House} {p : Nat} (h : 0 < p) (e : xs.getD p default = xs.getD (p - 1) default) : zND xs (p + 1) = zND xs p := by rw [zND, if_pos ⟨h, e⟩]
theorem zOd {xs : List House} {p : Nat} (e : ¬ xs.getD p default = xs.getD (p - 1) default) : zND xs (p + 1) = zND xs p ++ [xs.getD p default] := by rw [zND, if_neg (fun h => e h.2)]
theorem zOc (xs : List House) : ∀ p, (zND xs p).length ≤ p
 | 0 => Nat.le_refl _
 | p + 1 => by
  have := zOc xs p
  rw [zND]
  split
  ·omega
  ·simp; omega
def zNo (xs : List House) (p : Nat) : Prop := ∀ j, 0 < j → j < p → ¬ xs.getD j default = xs.getD (j - 1) default
theorem zN6 {xs : List House} : ∀ {p : Nat}, p ≤ xs.length → zNo xs p → zND xs p = xs.take p
 | 0, _, _ => rfl
 | p + 1, hp, h => by
  have ih := zN6 (p := p) (by omega) (fun j h0 hj => h j h0 (by omega))
  rw [zDT (by omega), ← ih, zND]
  rw [if_neg (fun hh => h p hh.1 (by omega) hh.2)]
theorem zOe {xs : List House} (hs : xs.Pairwise fun a b => ¬ b.lt a = true) : ∀ p, p ≤ xs.length → Strict (zND xs p) ∧ ∀ z, z ∈ zND xs p ↔ z ∈ xs.take p
 | 0, _ => ⟨List.Pairwise.nil, fun z => by simp [zND]⟩
 | p + 1, hp => by
  obtain ⟨h1, h2⟩ := zOe hs p (by omega)
  have hle : ∀ i j, i < j → j < xs.length → ¬ (xs.getD j default).lt (xs.getD i default) = true := fun i j hij hj => by
   have := List.pairwise_iff_getElem.1 hs i j (by omega) hj hij
   simpa [List.getD, hj, show i < xs.length by omega] using this
  rw [zDT (by omega), zND]
  by_cases c : 0 < p ∧ xs.getD p default = xs.getD (p - 1) default
  ·rw [if_pos c]
   refine ⟨h1, fun z => ?_⟩
   rw [h2, List.mem_append, List.mem_singleton]
   constructor
   ·exact .inl
   ·rintro (h | rfl)
    ·exact h
    ·rw [c.2]
     exact List.mem_take_iff_getElem.2 ⟨p - 1, by omega, by simp [List.getD, show p - 1 < xs.length by omega]⟩
  ·rw [if_neg c]
   refine ⟨?_, fun z => by rw [List.mem_append, List.mem_append, h2]⟩
   refine List.pairwise_append.2 ⟨h1, List.pairwise_singleton _ _, fun a ha b hb => ?_⟩
   rw [List.mem_singleton.1 hb]
   rw [h2] at ha
   obtain ⟨i, hi, rfl⟩ := List.mem_take_iff_getElem.1 ha
   have hi' : i < p := by omega
   have hiL : i < xs.length := by omega
   have e1 : xs[i] = xs.getD i default := by simp [List.getD, hiL]
   rw [e1]
   -- the neighbour ahead is not greater than the new one, and not it
   have g1 := hle (p - 1) p (by omega) (by omega)
   have g2 : ¬ xs.getD p default = xs.getD (p - 1) default := fun e => c ⟨by omega, e⟩
   have g3 : (xs.getD (p - 1) default).lt (xs.getD p default) = true := by
    rcases House.lt_tri (xs.getD (p - 1) default) (xs.getD p default) with h | h | h
    ·exact h
    ·exact absurd h.symm g2
    ·exact absurd h g1
   by_cases e : i = p - 1
   ·rw [e]; exact g3
   ·have g4 := hle i (p - 1) (by omega) (by omega)
    rcases House.lt_tri (xs.getD i default) (xs.getD (p - 1) default) with h | h | h
    ·exact House.lt_trans h g3
    ·rw [h]; exact g3
    ·exact absurd h g4
end Go.Abs

namespace Go.Abs
open Go
theorem zNs {α β : Type} (f : α → List β) (k : Nat) : ∀ (l : List α), (∀ x, x ∈ l → (f x).length ≤ k) → (l.flatMap f).length ≤ l.length * k
 | [], _ => Nat.zero_le _
 | x :: r, h => by
  have h1 := h x (by simp)
  have h2 := zNs f k r (fun y hy => h y (by simp [hy]))
  rw [List.flatMap_cons, List.length_append, List.length_cons, Nat.add_mul]
  omega
def zNR (s : Story) (h : House) : List House := if M8 s h = 0 then zA3 s h else []
def zNG (s : Story) (h : House) : List House := (r6 s).flatMap fun t => (y4 s.first).filter fun x => decide (h ∈ t.now x)
def zNb (s : Story) (h : House) : Int := if r9 s = 0 then if r6 s = [] then 11 else if zNG s h = [] then 3 else 0 else r9 s
def zNQ (s : Story) (h : House) : List House := if r9 s = 0 then if r6 s = [] then [] else s7 (zNG s h) else []
def zNJ (s : Story) (h to : House) : Nat := (r6 s).countP fun t => decide (to ∈ t.now h)
def zNm (n all : Nat) : Int := if n = 0 then 2 else if n = all then 1 else 3
def zNn (s : Story) (h to : House) : Int := if M8 s h = 0 then zNm (zNJ s h to) (r6 s).length else 0
theorem zOS {s : Story} {h : House} (he : M8 s h = 0) : r9 s = 0 ∧ h ∈ y4 s.first ∧ r6 s ≠ [] := by
 unfold M8 at he
 by_cases h1 : r9 s = 0
 ·rw [if_pos h1] at he
  by_cases h2 : h ∈ y4 s.first
  ·rw [if_pos h2] at he
   refine ⟨h1, h2, fun e => ?_⟩
   rw [if_pos e] at he; omega
  ·rw [if_neg h2] at he; omega
 ·rw [if_neg h1] at he; exact absurd he h1
end Go.Abs

namespace Go.Abs
open Go
theorem zQB (p : zLq) (c : Change) (x : House) (hx : x ≠ ⟨c.street, c.src⟩) : (mv p c x).length ≤ 1 := by
 unfold mv
 split
 ·rename_i hs
  have hp : ¬ x.plate = c.src := fun e => hx (by cases x; simp only at hs e; rw [hs, e])
  unfold toP
  simp only [if_neg hp]
  repeat' split
  all_goals simp
 ·simp
def Few (s : Story) (t : Truth) : Prop := ∀ h, h ∈ y4 s.first → (t.now h).length ≤ 1 + t.ways.length
theorem zPs {s : Story} {n : Nat} {t : Truth} (o : TOk s (n + 1) t) (k : Few s t) (c : Change) (i : Nat) : Few s (n0 t c i) := fun h hh => by
 show (s7 ((t.now h).flatMap (mv t.fin c))).length ≤ _
 have h1 := N4 (R5 ((t.now h).flatMap (mv t.fin c))).nodup (b := (t.now h).flatMap (mv t.fin c)) (fun x hx => mem_sortH.1 hx)
 have h2 := (zBl (f := mv t.fin c) (⟨c.street, c.src⟩ : House) (o.strict h hh).nodup (fun x _ hx => zQB _ _ x hx) (fun _ => zGQ _ _ _)).1
 have h3 := k h hh
 have : (n0 t c i).ways.length = t.ways.length + 1 := by simp [n0]
 omega
theorem zOj {s : Story} : ∀ (n : Nat) {t : Truth}, TOk s n t → Few s t → ∀ x, x ∈ p7 s n t → Few s x
 | 0, t, o, k, x, hx => by
  rw [F1] at hx
  split at hx
  ·rw [List.mem_singleton.1 hx]; exact k
  ·simp at hx
 | n + 1, t, o, k, x, hx => by
  rw [p7] at hx
  obtain ⟨i, _, hx⟩ := List.mem_flatMap.1 hx
  split at hx
  ·rename_i hc
   exact zOj n (o.next hc i) (zPs o k _ i) x hx
  ·simp at hx
theorem zOk {s : Story} {m : Nat} (hw : ∀ w, w ∈ s.steps → w.length ≤ m) : ∀ (n : Nat) (t : Truth), (p7 s n t).length ≤ m ^ n
 | 0, t => by
  rw [F1]
  split <;> simp
 | n + 1, t => by
  rw [p7]
  have hl : (v6 s t.ways.length).length ≤ m := by
   unfold v6
   by_cases h : t.ways.length < s.steps.length
   ·exact hw _ (w9 h)
   ·have e : s.steps[t.ways.length]? = none := List.getElem?_eq_none (by omega)
    simp only [List.getD, e, Option.getD_none]; show ([] : List Change).length ≤ m; simp
  have h1 := zNs (fun i => if can t.fin ((v6 s t.ways.length).getD i default) = 0 then p7 s n (n0 t ((v6 s t.ways.length).getD i default) i) else []) (m ^ n) (List.range' 0 (v6 s t.ways.length).length) (fun i _ => by
   split
   ·exact zOk hw n _
   ·simp)
  refine Nat.le_trans h1 ?_
  rw [List.length_range', Nat.pow_succ, Nat.mul_comm]
  exact Nat.mul_le_mul_left _ hl
theorem zPT {s : Story} {f : Int} (o : Small s 3 2 f) {h : House} (hh : h ∈ y4 s.first) : (P2 s h).length ≤ 32 := by
 have v := o.told.first
 have h3 := o.told.steps
 have h1 := zOk (m := 2) (fun w hw => by have := o.ways w hw; omega) s.steps.length (X0 s)
 have h2 : 2 ^ s.steps.length ≤ 2 ^ 3 := Nat.pow_le_pow_right (by omega) h3
 have h4 := zNs (fun t : Truth => t.now h) 4 (r6 s) (fun t ht => by
  have k := zOj s.steps.length (A9 v) (fun x hx => by simp [X0]) t ht h hh
  have := (zDW v t ht).steps
  omega)
 have h5 : (r6 s).length ≤ 2 ^ s.steps.length := h1
 unfold P2
 omega
theorem zNj (l : List House) : (s7 l).length ≤ l.length := N4 (R5 l).nodup (fun _ hx => mem_sortH.1 hx)
def zR6 (s : Story) (f : Fact) : Story := ⟨s.first, s.steps, s.facts ++ [f]⟩
theorem zRJ (s : Story) (h to : House) : zNJ s h to ≤ (r6 s).length := List.countP_le_length
theorem zRL {s : Story} {h to : House} : zNJ s h to = 0 ↔ to ∉ P2 s h := by
 unfold zNJ P2
 rw [List.countP_eq_zero]
 constructor
 ·intro k hm
  obtain ⟨t, ht, hz⟩ := List.mem_flatMap.1 hm
  exact k t ht (by simpa using hz)
 ·intro k t ht hz
  exact k (List.mem_flatMap.2 ⟨t, ht, by simpa using hz⟩)
theorem zPS {s : Story} (o : Told s) {h : House} (hh : h ∈ y4 s.first) (hne : r6 s ≠ []) : M8 s h = 0 := by
 unfold M8
 rw [if_pos (zLl o), if_pos hh, if_neg hne]
theorem zNw {s : Story} (o : Told s) : Bound 1048576 s := by
 have v := o.first
 have hp : PlanB 1048576 s.first := ⟨by have := v.len; omega, fun l hl => by have := (v.rows l hl).len; omega, fun l hl x hx => by
  have := (o3 x).1 ((v.rows l hl).ok x hx)
  exact ⟨C8 (by omega) (by omega), C8 (by omega) (by omega)⟩⟩
 refine ⟨hp, by have := o.steps; omega, fun w hw => by have := (o.ways w hw).2.1; omega, by have := o.facts; omega, fun f hf => ?_⟩
 obtain ⟨h1, h2, h3⟩ := o.fact f hf
 have h4 := betw_iff.1 h2
 have h5 := v.len
 have h6 := (o3 _).1 h3
 exact ⟨v.wf _ h1, C8 (by omega) (by omega), C8 (by omega) (by omega), C8 (by omega) (by omega)⟩
end Go.Abs

namespace Go.Proofs
open Go.Shelf
def Tryz.sortPlace_ren : Go.Shelf.Ren := ⟨fun | 6 => 135 | 15 => 154 | 14 => 159 | 28 => 184 | 29 => 185 | 20 => 186 | 21 => 187 | 22 => 188 | 23 => 189 | 24 => 190 | 25 => 191 | 26 => 192 | 27 => 193 | 46 => 205 | 47 => 201 | 48 => 202 | 49 => 206 | 50 => 207 | 57 => 209 | n => n, fun | 22 => 50 | 24 => 57 | 25 => 169 | 3 => 3 | 39 => 129 | 0 => 0 | 53 => 209 | 55 => 113 | 4 => 4 | 46 => 202 | 45 => 201 | 50 => 206 | 5 => 5 | 9 => 9 | 66 => 222 | 70 => 225 | 76 => 229 | 77 => 230 | n => n, fun | n => n⟩
theorem Tryz.sortPlace : Go.Proofs.SlLaysF0.n6 Tryz.prog Tryz.sortPlace_ren := {
 mixed := by kernel_rfl
 f6 := ⟨Tryz.f135.name, by decide, Tryz.func135.trans (congrArg some (by kernel_rfl))⟩
 f14 := ⟨Tryz.f159.name, by decide, Tryz.func159.trans (congrArg some (by kernel_rfl))⟩
 f15 := Tryz.func154.trans (congrArg some (by kernel_rfl))
 f20 := ⟨Tryz.f186.name, by decide, Tryz.func186.trans (congrArg some (by kernel_rfl))⟩
 f21 := ⟨Tryz.f187.name, by decide, Tryz.func187.trans (congrArg some (by kernel_rfl))⟩
 f22 := ⟨Tryz.f188.name, by decide, Tryz.func188.trans (congrArg some (by kernel_rfl))⟩
 f23 := ⟨Tryz.f189.name, by decide, Tryz.func189.trans (congrArg some (by kernel_rfl))⟩
 f24 := ⟨Tryz.f190.name, by decide, Tryz.func190.trans (congrArg some (by kernel_rfl))⟩
 f25 := ⟨Tryz.f191.name, by decide, Tryz.func191.trans (congrArg some (by kernel_rfl))⟩
 f26 := ⟨Tryz.f192.name, by decide, Tryz.func192.trans (congrArg some (by kernel_rfl))⟩
 f27 := ⟨Tryz.f193.name, by decide, Tryz.func193.trans (congrArg some (by kernel_rfl))⟩
 f28 := Tryz.func184.trans (congrArg some (by kernel_rfl))
 f29 := Tryz.func185.trans (congrArg some (by kernel_rfl))
 f46 := ⟨Tryz.f205.name, by decide, Tryz.func205.trans (congrArg some (by kernel_rfl))⟩
 f47 := Tryz.func201.trans (congrArg some (by kernel_rfl))
 f48 := Tryz.func202.trans (congrArg some (by kernel_rfl))
 f49 := ⟨Tryz.f206.name, by decide, Tryz.func206.trans (congrArg some (by kernel_rfl))⟩
 f50 := ⟨Tryz.f207.name, by decide, Tryz.func207.trans (congrArg some (by kernel_rfl))⟩
 f57 := ⟨Tryz.f209.name, by decide, Tryz.func209.trans (congrArg some (by kernel_rfl))⟩
 t0 := Tryz.underlying0
 a0 := Tryz.isAgg0
 z0 := Tryz.sizeOf0
 v0 := Tryz.zeroValue0
 t3 := Tryz.underlying3
 a3 := Tryz.isAgg3
 z3 := Tryz.sizeOf3
 v3 := Tryz.zeroValue3
 t4 := Tryz.underlying4
 a4 := Tryz.isAgg4
 z4 := Tryz.sizeOf4
 v4 := Tryz.zeroValue4
 t5 := Tryz.underlying5
 a5 := Tryz.isAgg5
 z5 := Tryz.sizeOf5
 v5 := Tryz.zeroValue5
 t9 := Tryz.underlying9
 a9 := Tryz.isAgg9
 z9 := Tryz.sizeOf9
 v9 := Tryz.zeroValue9
 t22 := Tryz.underlying50
 a22 := Tryz.isAgg50
 z22 := Tryz.sizeOf50
 v22 := Tryz.zeroValue50
 t25 := Tryz.underlying169
 a25 := Tryz.isAgg169
 z25 := Tryz.sizeOf169
 v25 := Tryz.zeroValue169
 t39 := Tryz.underlying129
 a39 := Tryz.isAgg129
 z39 := Tryz.sizeOf129
 v39 := Tryz.zeroValue129
 t45 := Tryz.underlying201
 a45 := Tryz.isAgg201
 z45 := Tryz.sizeOf201
 v45 := Tryz.zeroValue201
 t46 := Tryz.underlying202
 a46 := Tryz.isAgg202
 z46 := Tryz.sizeOf202
 v46 := Tryz.zeroValue202
 t50 := Tryz.underlying206
 a50 := Tryz.isAgg206
 z50 := Tryz.sizeOf206
 v50 := Tryz.zeroValue206
 t53 := Tryz.underlying209
 a53 := Tryz.isAgg209
 z53 := Tryz.sizeOf209
 v53 := Tryz.zeroValue209
 t55 := Tryz.underlying113
 a55 := Tryz.isAgg113
 z55 := Tryz.sizeOf113
 v55 := Tryz.zeroValue113
 t66 := Tryz.underlying222
 a66 := Tryz.isAgg222
 z66 := Tryz.sizeOf222
 v66 := Tryz.zeroValue222
 t70 := Tryz.underlying225
 a70 := Tryz.isAgg225
 z70 := Tryz.sizeOf225
 v70 := Tryz.zeroValue225
 t76 := Tryz.underlying229
 a76 := Tryz.isAgg229
 z76 := Tryz.sizeOf229
 v76 := Tryz.zeroValue229
 t77 := Tryz.underlying230
 a77 := Tryz.isAgg230
 z77 := Tryz.sizeOf230
 v77 := Tryz.zeroValue230 }
end Go.Proofs

namespace Go.Abs
open Go Go.Proofs Go.Sort
theorem SR.grown {E : Env} {I : Nat → Prop} {loc : Nat → Loc} {σ : AS} {a : Act} {w w' : World} (h : SR E I loc σ a w) (ho : w'.os = w.os) (ht : w'.tape = w.tape) (hu : w'.output = w.output) (hz : w.heap.size ≤ w'.heap.size)
  (hk : ∀ k, k < w.heap.size → w'.heap[k]? = w.heap[k]?) (hd : w.drawn ≤ w'.drawn) : SR E I loc σ a w' := by
 have hI : ∀ b, I b → w'.heap[b]? = w.heap[b]? := fun b hb => hk b (h.imm b hb)
 exact ⟨h.defers.imp (fun r g1 g2 g3 g4 => ⟨by rw [hk r (Array.getElem?_eq_some_iff.1 g1).1]; exact g1, g2, g3, g4⟩), h.size, fun t => (h.tmps t).mono hI (fun _ x => x) (fun _ _ => rfl),
  fun o => (h.objs o).mono hI (fun _ x => x) (fun _ _ => rfl) (fun e => h.un e) (fun hl b c hb => hk b ((h.objs o).lt hl hb)), h.inj, fun b hb => by have := h.imm b hb; omega, h.sep,
  h.fr.of_same ho ht hu hz (fun b hb _ => hk b (by have := h.fr.size; omega)) hd, h.base, h.top, h.keep⟩
def zNB (h : House) : List Value := [.int .i64 h.street, .int .i64 h.plate.number, .int .i64 h.plate.letter]
theorem zOa (h : House) : h.enc.cells = (zNB h).map AV.raw := rfl
theorem zPl (h : House) : ∀ j, j < 3 → ((zNB h).getD j undef).oneCell' = true
 | 0, _ => rfl
 | 1, _ => rfl
 | 2, _ => rfl
 | j + 3, h => by omega
theorem zR2 (d : List House) {t : Nat} (h : t < d.length * 3) : (flatK zNB 3 d.toArray)[t]! = (zNB (d.getD (t / 3) default)).getD (t % 3) undef := by
 rw [get_flatK _ _ _ _ (by simpa using h)]
 have h1 : t / 3 < d.length := by omega
 have h2 : t % 3 < 3 := by omega
 have e : d.toArray[t / 3]! = d.getD (t / 3) default := by simp [List.getD, h1]
 rw [e]
 rw [getElem!_pos _ _ (by simpa [zNB] using h2)]
 simp [List.getD, zNB, h2]
theorem zQ6 {P : Program} {f : FuncId} {fn : Value} (le : House → House → Bool)
  (hsome : ∀ (blk cap : Nat) (d : Array House) (w : World), HoldsK zNB 3 w blk 0 d → blk < w.heap.size → d.size < 4611686018427387904 →
   Calls P f #[.slice (some ⟨blk, 0, none⟩) d.size cap, fn] w fun e w' => e = .returned (.tuple #[]) ∧ ∃ n os, w' = sortWorldK zNB 3 w blk 0 n (d.toList.mergeSort le).toArray os)
  (hnone : ∀ (p : Option Addr) (cap : Nat) (w : World), Calls P f #[.slice p 0 cap, fn] w fun e w' => e = .returned (.tuple #[]) ∧ w' = w)
  (l : List House) (hl : l.length < 4611686018427387904) :
  zLr P f [.own 0 3 0 l.length, .raw fn] [.row 3 (l.map House.enc)] (.tup []) [.row 3 ((l.mergeSort le).map House.enc)] := by
 intro w I loc vs hs hv hargs
 obtain ⟨v0, v1, rfl⟩ : ∃ v0 v1, vs = #[v0, v1] := by
  have h2 : vs.size = 2 := hv
  exact ⟨vs[0], vs[1], by apply Array.ext <;> simp [h2]; intro i hi _; match i, hi with | 0, _ => rfl | 1, _ => rfl⟩
 have h0 := hargs 0 (by simp) (by simp)
 have h1 := (hargs 1 (by simp) (by simp)).raw_eq
 simp only [List.getElem_cons_zero, List.getElem_toArray] at h0
 simp only [List.getElem_toArray, List.getElem_cons_succ, List.getElem_cons_zero] at h1
 subst h1
 by_cases hl0 : l = []
 ·subst hl0
  obtain ⟨p, cap, rfl⟩ : ∃ p cap, v0 = .slice p 0 cap := by
   cases h0 with
   | pure h => cases h
   | ownN o sz h => exact ⟨_, _, rfl⟩
   | own o sz off len b c a cap => exact ⟨_, _, rfl⟩
  refine (hnone p cap w).mono ?_
  rintro e w' ⟨rfl, rfl⟩
  exact ⟨_, I, loc, rfl, ⟨by simpa using hs, .tup [] #[] rfl (fun i h => by cases h), by simp⟩⟩
 ·have hpos : 0 < l.length := List.length_pos_iff.2 hl0
  generalize hn : l.length = n at h0
  cases h0 with
  | pure h => cases h
  | ownN o sz h => omega
  | own o sz off len b c a cap hb hcap hcs ha =>
   have ha := ha (by omega)
   subst ha
   subst hn
   have hO : OR w I loc 0 (.row 3 (l.map House.enc)) := hs.objs 0
   obtain ⟨_, _, hO⟩ := hO
   rcases hO with ⟨hn, _⟩ | ⟨b', C, e, hb', hh, hsz, hcell⟩
   ·rw [hb] at hn; cases hn
   rw [hb] at hb'
   injection hb' with hb1 hb2
   subst hb1 hb2
   rw [List.length_map] at hsz
   have hblk : b < w.heap.size := (Array.getElem?_eq_some_iff.1 hh).1
   have key : ∀ t, t < l.length * 3 → C[t]? = some ((zNB (l.getD (t / 3) default)).getD (t % 3) undef) := fun t ht => by
    have i1 : t / 3 < l.length := by omega
    have i2 : t % 3 < 3 := by omega
    have i3 : t / 3 * 3 + t % 3 = t := by omega
    have hp := hcell (t / 3) (by simpa using i1) (t % 3) (by simp [AV.cells]; exact i2) (by rw [i3]; omega)
    have e1 : ((l.map House.enc)[t / 3]'(by simpa using i1)).cells = (zNB (l.getD (t / 3) default)).map AV.raw := by
     rw [List.getElem_map, zOa]; simp [List.getD, i1]
    have e2 : (((l.map House.enc)[t / 3]'(by simpa using i1)).cells[t % 3]'(by rw [e1]; simpa [zNB] using i2)) = .raw ((zNB (l.getD (t / 3) default)).getD (t % 3) undef) := by
     simp only [e1]
     rw [List.getElem_map]
     simp [List.getD, zNB, i2]
    rw [e2] at hp
    have := (VR.pure (loc := loc) hp).raw_eq
    simp only [i3] at this
    rw [Array.getElem?_eq_getElem (by omega), this]
   have hH : HoldsK zNB 3 w b 0 l.toArray := fun j hj => by
    have hj' : j < l.length * 3 := by simpa using hj
    refine ⟨?_, ?_⟩
    ·simp only [World.cell?, hh, Nat.zero_add, key j hj', id, zR2 l hj']; rfl
    ·simp [World.frozen?, hh]
   refine (hsome b cap l.toArray w hH hblk (by simpa using hl)).mono ?_
   rintro e' w' ⟨rfl, n, os, rfl⟩
   simp only [List.toList_toArray]
   have hpm : (l.mergeSort le).length = l.length := List.length_mergeSort l
   generalize l.mergeSort le = d at *
   have hF : (flatK zNB 3 d.toArray).size = l.length * 3 := by simp [hpm]
   obtain ⟨F, hFe⟩ : ∃ F, F = flatK zNB 3 d.toArray := ⟨_, rfl⟩
   have hw1 : (putRowK zNB 3 (Sort.ahead w n) b 0 d.toArray).heap[b]? = some (.cells (putCells id 0 F C) e (0, 0)) := by
    unfold putRowK putRow mapBlock
    rw [hFe]
    simp [Sort.ahead, Array.getElem?_modify, hh, onCells]
   have hsr : SR (Y9 w I 1 loc) I loc ((Go.Abs.hs [.row 3 (l.map House.enc)]).setO 0 (.row 3 (d.map House.enc))) J5 (putRowK zNB 3 (Sort.ahead w n) b 0 d.toArray) := by
    refine SR.writeG (w' := putRowK zNB 3 (Sort.ahead w n) b 0 d.toArray) (A := .row 3 (d.map House.enc)) hs (by rfl) hb rfl rfl rfl (by simp [putRowK, Sort.ahead]) (fun k hk => ?_) ?_ (by simp) (Nat.le_add_right _ _)
    ·unfold putRowK putRow mapBlock
     simp [Sort.ahead, Array.getElem?_modify, Ne.symm hk]
    ·refine ⟨by omega, fun i hi => by simp [AV.cells], .inr ⟨b, putCells id 0 F C, e, ?_, hw1, ?_, fun i hi j hj hij => ?_⟩⟩
     ·rw [hb]; simp [putCells]
     ·simp only [putCells, Array.size_mapIdx, List.length_map]; omega
     ·have hi' : i < d.length := by simpa using hi
      have hj' : j < 3 := by simpa [AV.cells] using hj
      have ht : i * 3 + j < d.length * 3 := by omega
      have e1 : ((d.map House.enc)[i]).cells = (zNB (d.getD i default)).map AV.raw := by
       rw [List.getElem_map, zOa]; simp [List.getD, hi']
      have e2 : ((d.map House.enc)[i]).cells[j] = .raw ((zNB (d.getD i default)).getD j undef) := by
       simp only [e1]
       rw [List.getElem_map]
       simp [List.getD, zNB, hj']
      have e3 : (putCells id 0 F C)[i * 3 + j] = (zNB (d.getD i default)).getD j undef := by
       simp only [putCells, Array.getElem_mapIdx]
       rw [if_pos ⟨Nat.zero_le _, by rw [hFe, hF]; omega⟩, Nat.sub_zero, hFe, id, zR2 d ht]
       rw [show (i * 3 + j) / 3 = i by omega, show (i * 3 + j) % 3 = j by omega]
      rw [e2, e3]
      exact .raw _ (zPl _ _ hj')
   have hsr2 := hsr.grown (w' := sortWorldK zNB 3 w b 0 n d.toArray os) rfl rfl rfl (by simp [sortWorldK]) (fun k hk => heap_grow_old _ _ hk) (Nat.le_refl _)
   refine ⟨_, I, loc, rfl, ⟨hsr2.congr rfl (fun t => rfl) (fun o => ?_), .tup [] #[] rfl (fun i h => by cases h), by simp⟩⟩
   rw [AS.obj_setO]
   by_cases ho : 0 = o
   ·subst ho; rfl
   ·rw [if_neg ho]
    simp [Go.Abs.hs, zL0, AS.obj, lkO, ho]
end Go.Abs

namespace Go.Abs
open Go
section
variable {P : Program} {E : Env} {I : Nat → Prop} {loc : Nat → Loc} {σ : AS} {a : Act} {w : World}
theorem zPo (hs : SR E I loc σ a w) {x : Operand} {t et ty : TypeId} {z : Value} {sz : Nat} (ht : P.underlying t = some (.slice et)) (hz : ∀ w, (zeroValue et).run P w = .ok z w) (hzc : z.cells.size = sz) (hz1 : ∀ i (h : i < z.cells.size), (z.cells[i]).oneCell' = true)
  {oid off len : Nat} {xs : List AV} (hx : σ.ev x = .own oid sz off len) (hA : σ.obj oid = .row sz xs) (hlen : off + len = xs.length) (hpos : 0 < len) :
  ∃ w', (Builtin.clear_ #[t] ty #[a.eval x]).run P w = .ok (.tuple #[]) w' ∧ SR E I loc (σ.setO oid (.row sz (xs.take off))) a w' := by
 have hv := hs.ev x
 rw [hx] at hv
 have hlive : (σ.obj oid).live = true := by rw [hA]; rfl
 have hO : OR w I loc oid (.row sz xs) := by rw [← hA]; exact hs.objs oid
 generalize a.eval x = v at hv
 cases hv with
 | pure hp => cases hp
 | ownN o sz h => omega
 | own o sz off len b c ad cap hb hcap hcs ha =>
  obtain ⟨h0, hxl, hO⟩ := hO
  rcases hO with ⟨hn, _⟩ | ⟨b', C, e, hb', hC, hsz, hcell⟩
  ·rw [hb] at hn; cases hn
  rw [hb] at hb'
  injection hb' with hb1 hb2
  subst hb1 hb2
  have had := ha (by omega)
  subst had
  obtain ⟨us, hus⟩ : ∃ us, us = Builtin.zeroCells z.cells len := ⟨_, rfl⟩
  have husz : us.size = len * sz := by rw [hus]; simp [Builtin.zeroCells, hzc]
  have hus1 : ∀ v, v ∈ us.toList → v.oneCell' = true := fun v hv => by
   rw [hus] at hv
   simp only [Builtin.zeroCells, Array.toList_map, List.mem_map] at hv
   obtain ⟨i, _, rfl⟩ := hv
   have hi : i % z.cells.size < z.cells.size := Nat.mod_lt _ (by omega)
   rw [getElem!_pos z.cells _ hi]
   exact hz1 _ hi
  have hfit : off * sz + us.size ≤ C.size := by
   rw [husz, ← Nat.add_mul, hlen]; exact hsz
  have hst := run_storeCells_at P b (off * sz) e us.toList 0 C w hC (by simpa using hfit) hus1
  have hspl : (C.toList.take (off * sz + 0) ++ us.toList ++ C.toList.drop (off * sz + 0 + us.toList.length)).toArray = spl C (off * sz) us := by simp [spl]
  rw [hspl] at hst
  obtain ⟨m, rfl⟩ : ∃ m, len = m + 1 := ⟨len - 1, by omega⟩
  refine ⟨w.setRow b (spl C (off * sz) us), ?_, ?_⟩
  ·rw [hus] at hst ⊢
   simp [Builtin.clear_, run_underlying ht, hz, hst]
  ·have hsep := hs.sep oid b C.size hlive hb
   refine hs.write hlive hb hC (A := .row sz (xs.take off)) ⟨h0, fun i hi => ?_, .inr ⟨b, spl C (off * sz) us, e, by rw [o9 hfit]; exact hb, setRow_heap w b C _ e _ hC, ?_, fun i hi j hj hij => ?_⟩⟩ (by simp)
   ·rw [List.getElem_take]; exact hxl _ _
   ·rw [o9 hfit, List.length_take]
    exact Nat.le_trans (Nat.mul_le_mul_right _ (by omega)) hsz
   ·have hi' : i < off := by simp at hi; omega
    have hi2 : i < xs.length := by omega
    have e1 : ((xs.take off)[i]'hi) = xs[i] := List.getElem_take
    have hj' : j < (xs[i]).cells.length := by rw [← e1]; exact hj
    have hjs : j < sz := by rw [← hxl i hi2]; exact hj'
    have hlt : i * sz + j < off * sz := by
     have := Nat.mul_le_mul_right sz (show i + 1 ≤ off by omega)
     rw [Nat.add_mul, Nat.one_mul] at this
     omega
    have hijC : i * sz + j < C.size := by omega
    have e2 : ((xs.take off)[i]'hi).cells[j] = (xs[i]).cells[j] := by congr 2
    rw [e2, K5 hfit _ hij hijC, dif_neg (by omega)]
    exact (hcell i hi2 j hj' hijC).mono (fun k hk => setRow_other w b k _ (fun e => hsep.1 (e ▸ hk))) (fun _ x => x)
theorem zP1 {Q : Exit → AS → Prop} {id : Nat} {pre : List Oper} {o : Oper} {x : Operand} {t et : TypeId} {z : Value} (sz : Nat) (hop : o.op = .call ⟨.builtin .clear, #[x], #[t]⟩) (hg : o.guard = none) (hdst : o.dst = none)
  (ht : P.underlying t = some (.slice et)) (hz : ∀ w, (zeroValue et).run P w = .ok z w) (hzc : z.cells.size = sz) (hz1 : ∀ i (h : i < z.cells.size), (z.cells[i]).oneCell' = true)
  (h : y6 P (pre ++ [o]) (fun σ1 _ => ∃ oid off len xs, σ1.ev x = .own oid sz off len ∧ σ1.obj oid = .row sz xs ∧ off + len = xs.length ∧ 0 < len ∧ Q .normal (σ1.setO oid (.row sz (xs.take off)))) pre σ []) : Hold P E (.region id (pre ++ [o]).toArray false) Q σ := fun a w hs => by
 refine wpIn_wide.1 (wpIn_region_list (n := 0) ?_)
 refine D2 (post := [o]) ?_ pre σ [] a w h hs
 rintro σ1 ts1 a1 w1 ⟨oid, off, len, xs, h1, h2, h3, h4, hq⟩ ⟨I1, loc1, hs1⟩
 unfold wpListIn
 rw [if_pos (by simp [Region.wanted, hg])]
 obtain ⟨w', hr, hsr⟩ := zPo (ty := o.type) hs1 ht hz hzc hz1 h1 h2 h3 h4
 refine zM6 (M9 (x := .tuple #[]) (w' := w') ?_ ?_)
 ·simp only [execOp, hop, resolve, Sem.run_bind, Sem.run_pure, Result.andThen_ok, invoke]
  simp [builtin, hr]
 ·rw [hdst]
  exact ⟨_, hq, I1, loc1, hsr⟩
end
end Go.Abs

namespace Go.Abs
open Go Go.Proofs Go.Sort
abbrev zRz (w : World) : Nat → Prop := fun b => b < w.heap.size
theorem zPc (w : World) : SR (Y9 w (zRz w) 0 (fun _ => .un)) (zRz w) (fun _ => .un) (hs []) J5 w :=
 ⟨.nil, rfl, fun t => .pure (.any _), fun o => rfl, fun o o' b c c' h => by simp [hs, zL0, AS.obj, lkO, AObj.live] at h, fun b hb => hb, fun o b c h => by simp [hs, zL0, AS.obj, lkO, AObj.live] at h,
  ⟨rfl, rfl, rfl, Nat.le_refl _, fun b _ _ => rfl, Nat.le_refl _⟩, fun b hb => hb, fun b hb => .inl hb, fun k hk => absurd hk (Nat.not_lt_zero k)⟩
theorem zPg {P : Program} {f : FuncId} {args : List AV} {r : Value} (sp : zLr P f args [] (.raw r) []) (w : World) (vs : Array Value) (hl : vs.size = args.length) (hv : ∀ i (h : i < args.length) (h' : i < vs.size), PR w (zRz w) args[i] vs[i]) :
  Calls P f vs w fun e w' => e = .returned r ∧ ∃ q os', w' = grow (w.drewN q) os' := by
 refine (sp w (zRz w) (fun _ => .un) vs (zPc w) hl (fun i h h' => .pure (hv i h h'))).mono ?_
 rintro e w' ⟨v, I', loc', rfl, hp⟩
 have hr := hp.val.raw_eq
 subst hr
 have fr := hp.sr.fr
 refine ⟨rfl, w'.drawn - w.drawn, w'.heap.extract w.heap.size w'.heap.size, ?_⟩
 have h1 : w'.os = w.os := fr.os
 have h2 : w'.tape = w.tape := fr.tape
 have h3 : w'.output = w.output := fr.output
 have h4 : w.heap.size ≤ w'.heap.size := fr.size
 have h5 : ∀ k, k < w.heap.size → w'.heap[k]? = w.heap[k]? := fun k hk => fr.block k hk (fun ⟨j, c, hj, _⟩ => absurd hj (Nat.not_lt_zero j))
 have h6 : w.drawn ≤ w'.drawn := fr.drawn
 have h7 : w'.heap = w.heap ++ w'.heap.extract w.heap.size w'.heap.size := by
  apply Array.ext
  ·simp; omega
  ·intro i hi1 hi2
   by_cases hi : i < w.heap.size
   ·have := h5 i hi
    rw [Array.getElem?_eq_getElem hi1, Array.getElem?_eq_getElem hi] at this
    rw [Array.getElem_append_left hi]
    exact Option.some.inj this
   ·rw [Array.getElem_append_right (by omega), Array.getElem_extract]
    congr 1
    omega
 cases w' with
 | mk heap tape drawn os output =>
  simp only at h1 h2 h3 h4 h6 h7
  subst h1 h2 h3
  have h8 : w.drawn + (drawn - w.drawn) = drawn := by omega
  show _ = ({ heap := w.heap ++ _, tape := w.tape, drawn := w.drawn + (drawn - w.drawn), os := w.os, output := w.output } : World)
  rw [h8, ← h7]
theorem zOw (w : World) (I : Nat → Prop) (x : House) : PR w I x.enc (.agg (zNB x).toArray) := by
 refine .agg _ _ rfl (fun i h h' => ?_)
 match i, h with
 | 0, _ => exact .raw _ rfl
 | 1, _ => exact .raw _ rfl
 | 2, _ => exact .raw _ rfl
 | i + 3, h => exact absurd h (by show ¬ i + 3 < 3; omega)
theorem zQQ (blk off size : Nat) (w : World) : CmpLays Tryz.prog 136 #[] zNB 3 zMG blk off size w := fun m os dk _ x y => by
 refine zPg (zHg x y) _ #[.agg (zNB x).toArray, .agg (zNB y).toArray] rfl (fun i h h' => ?_)
 match i, h with
 | 0, _ => exact zOw _ _ x
 | 1, _ => exact zOw _ _ y
 | i + 2, h => exact absurd h (by show ¬ i + 2 < 2; omega)
theorem zOu (x y : House) : ltOf zMG x y = true ↔ x.lt y = true := by
 unfold ltOf
 rw [decide_eq_true_eq, A4]
theorem zNh (x y : House) : ltOf zMG x y = false ↔ ¬ x.lt y = true := by
 rw [← zOu]; cases ltOf zMG x y <;> simp
theorem zRB : SWO (ltOf zMG) where
 irrefl x := by rw [zNh, House.lt_iff]; omega
 trans x y z h1 h2 := by rw [zOu, House.lt_iff] at *; omega
 ntrans x y z h1 h2 := by rw [zNh, House.lt_iff] at *; omega
def leH (x y : House) : Bool := !(ltOf zMG) y x
theorem zQh (xs : List House) (h : xs.length < 4611686018427387904) :
  zLr Tryz.prog 135 [.own 0 3 0 xs.length, fnV 136] [.row 3 (xs.map House.enc)] (.tup []) [.row 3 ((xs.mergeSort leH).map House.enc)] := by
 have eg : ∀ args w, (callFunc 136 args).run Tryz.prog w = .ok (.enter 136 args) w := fun args w => zAm (by kernel_rfl) args
 refine zQ6 leH (fun blk cap d w hH hblk hsz => ?_) (fun p cap w => AnyF.slices_SortFunc_none Tryz.sortPlace p cap _ w) xs h
 exact AnyQ.slices_SortFunc_total Tryz.sortPlace 3 Tryz.isAgg57 Tryz.sizeOf57 zNB (fun _ => rfl) (fun x v hv => by simp [zNB] at hv; rcases hv with rfl | rfl | rfl <;> rfl) zMG zRB 136 #[] blk 0 cap d w eg (zQQ blk 0 d.size w) hH hblk hsz
  (fun x y h1 h2 => by
   rw [zNh] at h1 h2
   rcases House.lt_tri x y with h | h | h
   ·exact absurd h h1
   ·exact h
   ·exact absurd h h2)
end Go.Abs

namespace Go.Abs
open Go Go.Proofs Tryz
attribute [local irreducible] y6 Hold x7
section
variable {P : Program} {E : Env} {Q : Exit → AS → Prop} {σ : AS} {p : List Nat} {b : Code}
theorem zQW {id : Nat} {ops : List Oper} {o : Oper} {x : Operand} {t et : TypeId} {z : Value} (k sz : Nat) (h : sub p b = .region id ops.toArray false) (hk : ops[k]? = some o) (hl : ops.length = k + 1) (hop : o.op = .call ⟨.builtin .clear, #[x], #[t]⟩) (hg : o.guard = none) (hdst : o.dst = none)
  (ht : P.underlying t = some (.slice et)) (hz : ∀ w, (zeroValue et).run P w = .ok z w) (hzc : z.cells.size = sz) (hz1 : ∀ i (h : i < z.cells.size), (z.cells[i]).oneCell' = true)
  (hx : y6 P ops (fun σ1 _ => ∃ oid off len xs, σ1.ev x = .own oid sz off len ∧ σ1.obj oid = .row sz xs ∧ off + len = xs.length ∧ 0 < len ∧ Q .normal (σ1.setO oid (.row sz (xs.take off)))) (ops.take k) σ []) : Hold P E (sub p b) Q σ := by
 obtain ⟨hlt, he⟩ := List.getElem?_eq_some_iff.1 hk
 have e : ops = ops.take k ++ [o] := by
  rw [← he]
  conv => lhs; rw [← List.take_append_drop k ops, List.drop_eq_getElem_cons hlt, List.drop_of_length_le (by omega)]
 obtain ⟨pre, hpre⟩ : ∃ pre, pre = ops.take k := ⟨_, rfl⟩
 rw [← hpre] at e hx
 rw [h]
 clear h hk he hlt hpre hl
 subst e
 exact zP1 sz hop hg hdst ht hz hzc hz1 hx
end
structure CmpTo (xs ys : List House) (p kk : Nat) : Prop where
 len : ys.length = xs.length
 kept : ys.take kk = zND xs p
 num : (zND xs p).length = kk
 less : kk < p
 rest : ∀ j, p ≤ j + 1 → j < xs.length → ys.getD j default = xs.getD j default
theorem CmpTo.same {xs ys : List House} {p kk : Nat} (h : CmpTo xs ys p kk) (hp : 0 < p) (e : xs.getD p default = xs.getD (p - 1) default) : CmpTo xs ys (p + 1) kk := by
 obtain ⟨h1, h2, h3, h4, h5⟩ := h
 refine ⟨h1, ?_, ?_, by omega, fun j h6 h7 => h5 j (by omega) h7⟩ <;> rw [zN7 hp e] <;> assumption
theorem CmpTo.new {xs ys : List House} {p kk : Nat} (h : CmpTo xs ys p kk) (hp : p < xs.length) (e : ¬ xs.getD p default = xs.getD (p - 1) default) : CmpTo xs (ys.set kk (xs.getD p default)) (p + 1) (kk + 1) := by
 obtain ⟨h1, h2, h3, h4, h5⟩ := h
 have hkk : kk < ys.length := by omega
 refine ⟨by simpa using h1, ?_, ?_, by omega, fun j h6 h7 => ?_⟩
 ·rw [zOd e, ← h2, List.take_add_one, List.take_set_of_le (Nat.le_refl _)]
  simp [hkk]
 ·rw [zOd e, List.length_append, h3]; rfl
 ·have hne : ¬ kk = j := by omega
  rw [← h5 j (by omega) h7]
  simp [List.getD, List.getElem?_set, hne]
theorem CmpTo.start {xs : List House} {k : Nat} (h0 : 0 < k) (hk : k < xs.length) (ha : zNo xs k) (e : xs.getD k default = xs.getD (k - 1) default) : CmpTo xs xs (k + 1) k := by
 have h1 := zN6 (by omega) ha
 refine ⟨rfl, by rw [zN7 h0 e, h1], by rw [zN7 h0 e, h1]; simp; omega, by omega, fun _ _ _ => rfl⟩
theorem zPk (i : Nat) (h : i < (Value.agg #[.int .i64 0, .int .i64 0, .int .i64 0]).cells.size) : ((Value.agg #[.int .i64 0, .int .i64 0, .int .i64 0]).cells[i]).oneCell' = true := by
 match i, h with
 | 0, _ => rfl
 | 1, _ => rfl
 | 2, _ => rfl
 | i + 3, h => exact absurd h (by show ¬ i + 3 < 3; omega)
theorem zQd (l : List House) (h1 : l.length ≤ 4294967296) :
  zLr prog 137 [.own 0 3 0 l.length] [.row 3 (l.map House.enc)] (.own 0 3 0 (zND l l.length).length) [.row 3 ((zND l l.length).map House.enc)] := by
 have hend : ∀ k, l.length ≤ k → zNo l k → zND l l.length = l := fun k hk ha => by
  rw [zN6 (Nat.le_refl _) (fun j h0 hj => ha j h0 (by omega)), List.take_of_length_le (Nat.le_refl _)]
 by_cases h2 : l.length < 2
 ·have h3 : (l.length : Int) < 2 := by omega
  have hs := hend 1
  refine q9 func137 rfl (fun E hE => ?_); simp only [go_sem, ntmps137]
  rw [show zND l l.length = l from by
   rcases l with _ | ⟨x, _ | ⟨y, r⟩⟩
   ·rfl
   ·rfl
   ·simp at h2; omega]
  clear hend hs
  refine wk1 trivial ?_
  refine ⟨[_], [some 0], [], ⟨rfl, trivial⟩, ?_⟩
  simp only [go_sem, *]
 have h3 : ¬ (l.length : Int) < 2 := by omega
 obtain ⟨R, hR⟩ : ∃ R, zND l l.length = R := ⟨_, rfl⟩
 rw [hR] at hend ⊢
 refine q9 func137 rfl (fun E hE => ?_); simp only [go_sem, ntmps137]
 refine wk1 trivial ?_
 refine u5 rfl (l.length - 1) (fun i (k : Nat) => (k ≤ i + 1 ∧ i + 1 ≤ k) ∧ zNo l k) 61 (fun i k => [(3, iV k), (0, .own 0 3 0 l.length)]) (fun i k => [.row 3 (l.map House.enc)]) [some 0] [] (1) (by exact ⟨⟨Nat.le_refl _, Nat.le_refl _⟩, fun j h0 hj => by omega⟩) ?_; intro i k hi hP
 obtain ⟨⟨hk1, hk2⟩, hP⟩ := hP
 have hw : IntKind.i64.wrap ((k : Int) - 1) = ((k - 1 : Nat) : Int) := by rw [wrap_i64 (by omega) (by omega)]; omega
 have hw2 : IntKind.i64.wrap ((k : Int) + 1) = ((k + 1 : Nat) : Int) := by rw [wrap_i64 (by omega) (by omega)]; omega
 by_cases hk : k < l.length
 ·have hk3 : (k : Int) < l.length := by omega
  have hkm : k - 1 < l.length := by omega
  by_cases e : l.getD k default = l.getD (k - 1) default
  ·have e2 : decide (l.getD k default = l.getD (k - 1) default) = true := by simpa using e
   have hS := CmpTo.start (by omega) hk hP e
   clear e hend
   refine wk1 trivial ?_
   clear hP
   refine X9 rfl (fun zn zN zenv zAs => ∃ (j : Nat) (k2 kk : Nat) (ys : List House), zn = (l.length - k - 1) - j ∧ j ≤ (l.length - k - 1) ∧ ((k2 ≤ j + 1 ∧ j + 1 ≤ k2) ∧ CmpTo l ys (k + k2) kk) ∧ zN = 61 ∧ zenv = [(5, iV k2), (4, .own 0 3 k (l.length - k)), (3, iV kk), (0, .own 0 3 0 l.length)] ∧ zAs = [.row 3 (ys.map House.enc)]) (l.length - k - 1) ⟨[some 0], [], _, _, _, (by (simp only [Weak, go_sem, List.map_append, List.map_set, *] <;> (try simp (disch := omega) only [s5]) <;> (try simp) <;> (try omega))), 0, 1, k, l, (by simp), (by simp), (by exact ⟨⟨Nat.le_refl _, Nat.le_refl _⟩, hS⟩), rfl, rfl, rfl⟩ ?_; rintro _ _ _ _ ⟨j, k2, kk, ys, rfl, hj, hQ, rfl, rfl, rfl⟩
   clear hS
   obtain ⟨⟨hj1, hj2⟩, hQ⟩ := hQ
   have hyl := hQ.len
   have hkl := hQ.less
   have hv : IntKind.i64.wrap ((k2 : Int) - 1) = ((k2 - 1 : Nat) : Int) := by rw [wrap_i64 (by omega) (by omega)]; omega
   have hv2 : IntKind.i64.wrap ((k2 : Int) + 1) = ((k2 + 1 : Nat) : Int) := by rw [wrap_i64 (by omega) (by omega)]; omega
   have hv3 : IntKind.i64.wrap ((kk : Int) + 1) = ((kk + 1 : Nat) : Int) := by rw [wrap_i64 (by omega) (by omega)]; omega
   by_cases hp : k + k2 < l.length
   ·have hp3 : (k2 : Int) < ((l.length - k : Nat) : Int) := by omega
    have hp4 : k2 < l.length - k := by omega
    have hp5 : k2 - 1 < l.length - k := by omega
    have g1 := hQ.rest (k + k2) (by omega) hp
    have g2 := hQ.rest (k + (k2 - 1)) (by omega) (by omega)
    have hkp : k + k2 - 1 = k + (k2 - 1) := by omega
    have hp6 : k + (k2 - 1) < l.length := by omega
    have hkkl : kk < l.length := by omega
    by_cases e : l.getD (k + k2) default = l.getD (k + k2 - 1) default
    ·have hN := hQ.same (by omega) e
     rw [hkp] at e
     have e2 : decide (l.getD (k + k2) default = l.getD (k + (k2 - 1)) default) = true := by simpa using e
     clear e hkp
     refine wk1 trivial ?_
     refine ⟨_, (by omega), [some 0], [], _, _, _, (by (simp only [Weak, go_sem, List.map_append, List.map_set, *] <;> (try simp (disch := omega) only [s5]) <;> (try simp) <;> (try omega))), j + 1, k2 + 1, kk, ys, rfl, (by omega), (by exact ⟨⟨by omega, by omega⟩, hN⟩), rfl, rfl, rfl⟩
    ·have hN := hQ.new hp e
     rw [hkp] at e
     have e2 : decide (l.getD (k + k2) default = l.getD (k + (k2 - 1)) default) = false := by simpa using e
     clear e hkp
     refine wk1 trivial ?_
     refine ⟨_, (by omega), [some 0], [], _, _, _, (by (simp only [Weak, go_sem, List.map_append, List.map_set, *] <;> (try simp (disch := omega) only [s5]) <;> (try simp) <;> (try omega))), j + 1, k2 + 1, kk + 1, ys.set kk (l.getD (k + k2) default), rfl, (by omega), (by exact ⟨⟨by omega, by omega⟩, hN⟩), rfl, rfl, rfl⟩
   ·have hp3 : ¬ (k2 : Int) < ((l.length - k : Nat) : Int) := by omega
    have hpe : k + k2 = l.length := by omega
    rw [hpe] at hQ
    have hkept := hQ.kept
    have hnum := hQ.num
    rw [hR] at hkept hnum
    clear hR hQ
    repeat' (first | (refine zQW 3 3 rfl rfl rfl rfl rfl rfl Tryz.underlying50 Tryz.zeroValue57 rfl zPk ?_) | (refine Qr rfl ?_; try intro _ hK; try simp only [go_sem, *]) | refine Qh rfl ?_ | refine Qd rfl (by kernel_rfl) ?_ | (refine Qc rfl rfl ?_ ?_ <;> (intro hb; have hc := hb; try simp only [go_sem] at hc)) | refine q6 rfl ?_ | (refine Qb ?_ ?_; focus kernel_rfl) | ((with_reducible apply And.intro); focus omega) | (refine z8 hK ?_; clear hK; simp only [go_sem, *]) | simp only [z6, z7, go_sem, *])
    all_goals try contradiction
    refine ⟨0, kk, l.length - kk, ys.map House.enc, rfl, by rw [if_pos rfl], by rw [List.length_map]; omega, by omega, ?_⟩
    rw [← List.map_take, hkept]
    subst hnum
    refine wk1 trivial ?_
    refine ⟨[_], [some 0], [], ⟨rfl, trivial⟩, ?_⟩
    simp only [go_sem, *]
    all_goals rfl
  ·have e2 : decide (l.getD k default = l.getD (k - 1) default) = false := by simpa using e
   have hN : zNo l (k + 1) := fun j h0 hj => by
    rcases Nat.lt_or_ge j k with h | h
    ·exact hP j h0 h
    ·obtain rfl : j = k := by omega
     exact e
   clear e hend
   refine wk1 trivial ?_
   exact w7 (i' := i + 1) [some 0] [] (k + 1) (by exact ⟨⟨by omega, by omega⟩, hN⟩)
 ·have hk3 : ¬ (k : Int) < l.length := by omega
  have hRe := hend k (by omega) hP
  clear hend hR
  subst hRe
  refine wk1 trivial ?_
  refine ⟨[_], [some 0], [], ⟨rfl, trivial⟩, ?_⟩
  simp only [go_sem, *]
theorem zOf (l : List House) : zND (l.mergeSort leH) l.length = s7 l := by
 have hp := List.pairwise_mergeSort (le := leH) (fun a b c h1 h2 => by
  unfold leH at *
  simp only [Bool.not_eq_true', zNh, House.lt_iff] at *
  omega) (fun a b => by
  unfold leH
  simp only [Bool.or_eq_true, Bool.not_eq_true', zNh, House.lt_iff]
  omega) l
 have hl : (l.mergeSort leH).length = l.length := List.length_mergeSort l
 have hs := zOe (xs := l.mergeSort leH) (hp.imp (fun {a b} h => by
  unfold leH at h
  simpa only [Bool.not_eq_true', zNh] using h)) l.length (by omega)
 refine I9 hs.1 (R5 l) (fun z => ?_)
 rw [hs.2, List.take_of_length_le (by omega), List.mem_mergeSort, mem_sortH]
theorem zPN (l : List House) (h : l.length ≤ 4294967296) : zLr prog 99 [.list (l.map House.enc)] [] (.list ((s7 l).map House.enc)) [] := by
 have ss := zQh l (by omega)
 have hl : (l.mergeSort leH).length = l.length := List.length_mergeSort l
 have sc := zQd (l.mergeSort leH) (by omega)
 rw [hl, zOf] at sc
 have hcl := zHJ l h
 have hsl : (s7 l).length ≤ l.length := by rw [← zOf]; exact zOc _ _
 generalize l.mergeSort leH = M at *
 generalize s7 l = S at *
 refine q9 func99 rfl (fun E hE => ?_); simp only [go_sem, ntmps99]
 refine wk1 (cc hcl (cc (own [0] (ss)) (own [0] (sc)))) ?_
 refine ⟨[_], [], [0], ⟨rfl, trivial⟩, ?_⟩
 simp only [go_sem, *]
 all_goals exact Nat.le_refl _
end Go.Abs

namespace Go.Abs
open Go Go.Proofs Tryz
attribute [local irreducible] y6 Hold x7
theorem zOt {h : House} {hs : List House} {F : House → AV} {o : Nat} {H : Nat → AObj} {K : Cont} (ho : H o = .mapo (hs.map House.key) (hs.map F)) (hw : ∀ k, k ∈ hs → k.Wf) (hh : h.Wf)
  (hk : K (.tup [if h ∈ hs then F h else .list [], bV (decide (h ∈ hs))]) [o] []) : X4 prog 121 (.mp o) h.enc true H K := by
 obtain ⟨et, h1, h2⟩ := zAd
 unfold X4
 rw [h1, zAS]
 simp only [h2, ho]
 refine ⟨zAT, O5 h hh, by simp [Value.cells, Value.oneCell'], fun q hq => ?_, ?_⟩
 ·obtain ⟨k, hk, rfl⟩ := List.mem_map.1 hq; exact O5 k (hw k hk)
 ·rw [zGG, zKH]; simpa [zAV] using hk
theorem zQb (p : zLq) (c : Change) (h : House) (hp : p.length ≤ 4294967296) (hwf : h.Wf) :
  zLr prog 36 [x8 p, c.enc, h.enc] [] (.tup [.list ((zJI p c h).map House.enc), iV (zDy p c h)]) [] := by
 obtain ⟨s1, s2⟩ := zH0 p c hp
 by_cases e : o4 p c = 0
 ·have s := s2 e
  have hc : check p = 0 := by
   unfold o4 at e
   split at e <;> assumption
  have v := (T3 p).1 hc
  have hcan : can p c = 0 := by unfold o4 at e; rw [if_pos hc] at e; exact e
  have f := Fit.of_can hcan
  have hw := v.wf
  clear s1 s2
  by_cases hm : h ∈ y4 p
  ·have e1 : zDy p c h = 0 := by unfold zDy; rw [if_pos e, if_pos hm]
   have e2 : zJI p c h = s7 (mv p c h) := by unfold zJI; rw [if_pos e1]
   have ss := zC9 (mv p c h) (zCU f hm) (by have := zAe f h; omega)
   rw [e1, e2]
   clear e e1 e2
   have hd : decide (h ∈ y4 p) = true := by simpa using hm
   refine q9 func36 rfl (fun E hE => ?_); simp only [go_sem, ntmps36]
   repeat' (first | (refine Qr rfl ?_; try intro _ hK; try simp only [go_sem, *]) | refine Qh rfl ?_ | (refine Qc rfl rfl ?_ ?_ <;> (intro hb; have hc := hb; try simp only [go_sem] at hc)) | refine q6 rfl ?_ | (refine u2 (s) ?_; simp only [go_sem, *]) | ((with_reducible apply And.intro); focus omega) | (refine z8 hK ?_; clear hK; simp only [go_sem, *]) | simp only [z6, z7, go_sem, *])
   all_goals try contradiction
   refine zOt (h := h) (hs := y4 p) (F := zLu (mv p c)) (by simp only [go_sem]) hw hwf ?_
   rw [if_pos hm, zLu, hd]
   repeat' (first | (refine Qr rfl ?_; try intro _ hK; try simp only [go_sem, *]) | refine Qh rfl ?_ | (refine Qc rfl rfl ?_ ?_ <;> (intro hb; have hc := hb; try simp only [go_sem] at hc)) | refine q6 rfl ?_ | (refine q8 (ss) ?_; simp only [go_sem, *]) | ((with_reducible apply And.intro); focus omega) | (refine z8 hK ?_; clear hK; simp only [go_sem, *]) | simp only [z6, z7, go_sem, *])
   all_goals try contradiction
   (refine ⟨[_, _], [], [], ⟨rfl, rfl, trivial⟩, ?_⟩; simp only [go_sem, *])
  ·have e1 : zDy p c h = 3 := by unfold zDy; rw [if_pos e, if_neg hm]
   have e2 : zJI p c h = [] := by unfold zJI; rw [e1]; rfl
   rw [e1, e2]
   clear e e1 e2
   have hd : decide (h ∈ y4 p) = false := by simpa using hm
   refine q9 func36 rfl (fun E hE => ?_); simp only [go_sem, ntmps36]
   repeat' (first | (refine Qr rfl ?_; try intro _ hK; try simp only [go_sem, *]) | refine Qh rfl ?_ | (refine Qc rfl rfl ?_ ?_ <;> (intro hb; have hc := hb; try simp only [go_sem] at hc)) | refine q6 rfl ?_ | (refine u2 (s) ?_; simp only [go_sem, *]) | ((with_reducible apply And.intro); focus omega) | (refine z8 hK ?_; clear hK; simp only [go_sem, *]) | simp only [z6, z7, go_sem, *])
   all_goals try contradiction
   refine zOt (h := h) (hs := y4 p) (F := zLu (mv p c)) (by simp only [go_sem]) hw hwf ?_
   rw [if_neg hm, hd]
   repeat' (first | (refine Qr rfl ?_; try intro _ hK; try simp only [go_sem, *]) | refine Qh rfl ?_ | (refine Qc rfl rfl ?_ ?_ <;> (intro hb; have hc := hb; try simp only [go_sem] at hc)) | refine q6 rfl ?_ | ((with_reducible apply And.intro); focus omega) | (refine z8 hK ?_; clear hK; simp only [go_sem, *]) | simp only [z6, z7, go_sem, *])
   all_goals try contradiction
   (refine ⟨[_, _], [], [], ⟨rfl, rfl, trivial⟩, ?_⟩; simp only [go_sem, *])
 ·have s := s1 e
  have e1 : zDy p c h = o4 p c := by unfold zDy; rw [if_neg e]
  have e2 : zJI p c h = [] := by unfold zJI; rw [e1, if_neg e]
  have e3 : (o4 p c == 0) = false := by rw [beq_eq_false_iff_ne]; exact e
  rw [e1, e2]
  clear s1 s2 e1 e2
  generalize o4 p c = er at *
  refine q9 func36 rfl (fun E hE => ?_); simp only [go_sem, ntmps36]
  repeat' (first | (refine Qr rfl ?_; try intro _ hK; try simp only [go_sem, *]) | refine Qh rfl ?_ | (refine Qc rfl rfl ?_ ?_ <;> (intro hb; have hc := hb; try simp only [go_sem] at hc)) | refine q6 rfl ?_ | (refine q8 (s) ?_; simp only [go_sem, *]) | ((with_reducible apply And.intro); focus omega) | (refine z8 hK ?_; clear hK; simp only [go_sem, *]) | simp only [z6, z7, go_sem, *])
  all_goals try contradiction
  (refine ⟨[_, _], [], [], ⟨rfl, rfl, trivial⟩, ?_⟩; simp only [go_sem, *])
end Go.Abs

namespace Go.Abs
open Go Go.Proofs Tryz
attribute [local irreducible] y6 Hold x7
def bkt (L : List House) (i s : Nat) : List Plate := ((L.take i).filter (fun h => h.street == (s : Int))).map House.plate
end Go.Abs

namespace Go.Abs
open Go Go.Proofs Tryz
attribute [local irreducible] y6 Hold x7
def zNF (p : zLq) (c : Change) : Int :=
 if zLt c.kind 1 7 = false then 8
 else if zLt c.street 0 (p.length - 1) = false then 3
 else if (c.kind = 4 ∨ c.kind = 7) ∧ zLt c.other 0 (p.length - 1) = false then 3
 else if (c.kind = 4 ∨ c.kind = 7) ∧ c.other = c.street then 4 else 0
def zNM (c : Change) : Change := ⟨c.kind, c.street, if c.kind = 4 ∨ c.kind = 7 then c.other else 0, if 5 ≤ c.kind then c.src else zeroPlate, if c.kind = 7 then c.dst else zeroPlate⟩
end Go.Abs

namespace Go.Abs
open Go Go.Proofs Tryz
attribute [local irreducible] y6 Hold x7
end Go.Abs

namespace Go.Abs
open Go Go.Proofs Tryz
attribute [local irreducible] y6 Hold x7
end Go.Abs

namespace Go.Abs
open Go Go.Proofs Tryz
attribute [local irreducible] y6 Hold x7
def mvs (p : zLq) (c : Change) (h : House) : List Move := (mv p c h).map fun z => ⟨h, z⟩
end Go.Abs

namespace Go.Abs
open Go Go.Proofs Tryz
attribute [local irreducible] y6 Hold x7
end Go.Abs

namespace Go.Abs
open Go Go.Proofs Tryz
attribute [local irreducible] y6 Hold x7
end Go.Abs

namespace Go.Abs
open Go Go.Proofs Tryz
attribute [local irreducible] y6 Hold x7
theorem zNt (l : List House) (x : House) (h1 : l.length ≤ 4294967296) : zLr prog 43 [Q6 l, x.enc] [] (bV (decide (x ∈ l))) [] := by
 refine q9 func43 rfl (fun E hE => ?_); simp only [go_sem, ntmps43]
 repeat' (first | (refine Qr rfl ?_; try intro _ hK; try simp only [go_sem, *]) | refine Qh rfl ?_ | refine Qd rfl (by kernel_rfl) ?_ | (refine Qc rfl rfl ?_ ?_ <;> (intro hb; have hc := hb; try simp only [go_sem] at hc)) | refine q6 rfl ?_ | (refine Qb ?_ ?_; focus kernel_rfl) | ((with_reducible apply And.intro); focus omega) | (refine z8 hK ?_; clear hK; simp only [go_sem, *]) | simp only [z6, z7, go_sem, *])
 refine u4 rfl (l.length) (fun i => x ∉ l.take i) 18 (fun i => [(5, iV i), (3, .ptr 0 0), (0, Q6 l)]) (fun i => [.box [iV x.street, iV x.plate.number, iV x.plate.letter]]) [some 0] [] (by simp) ?_; intro i hi hP
 by_cases hi : i < l.length
 ·by_cases q : l.getD i default = x
  ·have q' : decide (l.getD i default = x) = true := decide_eq_true q
   have hm : decide (x ∈ l) = true := decide_eq_true (by rw [← q]; exact w9 hi)
   clear q
   repeat' (first | (refine Qr rfl ?_; try intro _ hK; try simp only [go_sem, *]) | refine Qh rfl ?_ | refine Qd rfl (by kernel_rfl) ?_ | (refine Qc rfl rfl ?_ ?_ <;> (intro hb; have hc := hb; try simp only [go_sem] at hc)) | refine q6 rfl ?_ | (refine Qb ?_ ?_; focus kernel_rfl) | ((with_reducible apply And.intro); focus omega) | (refine z8 hK ?_; clear hK; simp only [go_sem, *]) | simp only [z6, z7, go_sem, *])
   all_goals first | contradiction | omega | skip
   (refine ⟨[_], [], [], ⟨rfl, trivial⟩, ?_⟩; simp only [go_sem, *])
  ·have q' : decide (l.getD i default = x) = false := decide_eq_false q
   repeat' (first | (refine Qr rfl ?_; try intro _ hK; try simp only [go_sem, *]) | refine Qh rfl ?_ | refine Qd rfl (by kernel_rfl) ?_ | (refine Qc rfl rfl ?_ ?_ <;> (intro hb; have hc := hb; try simp only [go_sem] at hc)) | refine q6 rfl ?_ | (refine Qb ?_ ?_; focus kernel_rfl) | ((with_reducible apply And.intro); focus omega) | (refine z8 hK ?_; clear hK; simp only [go_sem, *]) | simp only [z6, z7, go_sem, *])
   all_goals first | contradiction | omega | skip
   exact u3 (i' := i + 1) [some 0] [] (by rw [Q0 hi, List.mem_append, List.mem_singleton]; exact fun h => h.elim hP (fun e => q e.symm))
 ·rw [List.take_of_length_le (by omega)] at hP
  have hm : decide (x ∈ l) = false := decide_eq_false hP
  repeat' (first | (refine Qr rfl ?_; try intro _ hK; try simp only [go_sem, *]) | refine Qh rfl ?_ | refine Qd rfl (by kernel_rfl) ?_ | (refine Qc rfl rfl ?_ ?_ <;> (intro hb; have hc := hb; try simp only [go_sem] at hc)) | refine q6 rfl ?_ | (refine Qb ?_ ?_; focus kernel_rfl) | ((with_reducible apply And.intro); focus omega) | (refine z8 hK ?_; clear hK; simp only [go_sem, *]) | simp only [z6, z7, go_sem, *])
  all_goals first | contradiction | omega | skip
  (refine ⟨[_], [], [], ⟨rfl, trivial⟩, ?_⟩; simp only [go_sem, *])
end Go.Abs

namespace Go.Abs
open Go Go.Proofs Tryz
attribute [local irreducible] y6 Hold x7
def zRl (l : List Move) (h : House) : Option House := (l.find? fun m => decide (m.dst = h)).map Move.src
def zRo : House := ⟨0, zeroPlate⟩
end Go.Abs

namespace Go.Abs
open Go Go.Proofs Tryz
attribute [local irreducible] y6 Hold x7
end Go.Abs

namespace Go.Abs
open Go Go.Proofs Tryz
attribute [local irreducible] y6 Hold x7
@[go_sem, simp] theorem zRV (H : Nat → AObj) (m : List (Option Nat)) (ex : List Nat) (l : List (List Int)) : XpL H m ex (List.map j5 l) (List.map j5 l) ↔ True := ⟨fun _ => trivial, fun _ => zBD (fun x => by simp only [XpF]) _⟩
@[go_sem, simp] theorem zRX (H : Nat → AObj) (m : List (Option Nat)) (ex : List Nat) (l : List (List Int)) (ys zs : List AV) : XpL H m ex (List.map j5 l ++ [.list ys]) (List.map j5 l ++ [.list zs]) ↔ ys = zs := by
 rw [L3 _ (fun z hz => by
  obtain ⟨t, _, rfl⟩ := List.mem_map.1 hz
  simp only [XpF])]
 simp only [XpF]
@[go_sem, simp] theorem zRW (H : Nat → AObj) (m : List (Option Nat)) (ex : List Nat) (l r : List (List Int)) : XpL H m ex (List.map j5 l ++ List.map j5 r) (List.map j5 l ++ List.map j5 r) ↔ True := ⟨fun _ => trivial, fun _ => by rw [← List.map_append]; exact zBD (fun x => by simp only [XpF]) _⟩
@[reducible] def zRs (s : Story) : AObj := .box [.list (s.first.map y7), .list (s.steps.map i9), .list (s.facts.map Fact.enc)]
structure RunP (s : Story) (w : List Int) (i : Nat) (t : Truth) (G : Option Truth) : Prop where
 run : zRq s (w.drop i) t = G
 len : t.ways.length = i
 val : Valid t.fin
theorem RunP.start {s : Story} {w : List Int} (v : Valid s.first) : RunP s w 0 (X0 s) (zRq s w (X0 s)) := ⟨rfl, rfl, v⟩
theorem RunP.yes {s : Story} {w : List Int} {i : Nat} {t : Truth} {G : Option Truth} (h : RunP s w i t G) (hi : i < w.length) (e : can t.fin (zRt s t (w.getD i default)) = 0) : RunP s w (i + 1) (n0 t (zRt s t (w.getD i default)) (w.getD i default).toNat) G := by
 obtain ⟨h1, h2, h3⟩ := h
 rw [u0 hi, zOy e] at h1
 exact ⟨h1, by rw [zPP, h2], zDY h3 (Fit.of_can e)⟩
theorem RunP.no {s : Story} {w : List Int} {i : Nat} {t : Truth} {G : Option Truth} (h : RunP s w i t G) (hi : i < w.length) (e : ¬ can t.fin (zRt s t (w.getD i default)) = 0) : G = none := by
 obtain ⟨h1, h2, h3⟩ := h
 rw [u0 hi, zOx e] at h1
 exact h1.symm
theorem RunP.fin {s : Story} {w : List Int} {i : Nat} {t : Truth} {G : Option Truth} (h : RunP s w i t G) (hi : w.length ≤ i) : G = some t := by
 have h1 := h.run
 rw [u9 hi] at h1
 exact h1.symm
def zRy (s : Story) (w : List Int) : Prop := w.length = s.steps.length ∧ ∀ j, j < s.steps.length → 0 ≤ w.getD j default ∧ w.getD j default < (s.steps.getD j default).length
theorem zOQ {s : Story} {w : List Int} (h : w ∈ zOb s) : zRy s w := by
 obtain ⟨h1, h2⟩ := zON _ _ _ h
 exact ⟨h1, fun j hj => by have := h2 j hj; rw [Nat.zero_add] at this; exact this⟩
theorem zQO {s : Story} {w : List Int} {i : Nat} (t : Truth) (c : Change) (h : House) : s7 ((t.now h).flatMap fun x => s7 (mv t.fin c x)) = (n0 t c i).now h := by
 show _ = s7 ((t.now h).flatMap (mv t.fin c))
 exact zHB (fun z => by simp only [List.mem_flatMap, mem_sortH])
theorem zOI (s : Story) (o : Told s) (w : List Int) (hw : zRy s w) (h : House) (hh : h ∈ y4 s.first) (T : Truth) (hT : zRq s w (X0 s) = some T) :
  zLr prog 42 [s.enc, j5 w, h.enc] [] (.tup [x8 T.fin, Q6 (T.now h), iV 1]) [] := by
 have h3 := o.steps
 have h0 := RunP.start (w := w) o.first
 have k0 : TOk s s.steps.length (X0 s) := A9 o.first
 obtain ⟨hwl, hwb⟩ := hw
 rw [hT] at h0
 have hff : (X0 s).fin = s.first := rfl
 have hfn : (X0 s).now h = [h] := rfl
 clear hT
 refine q9 func42 rfl (fun E hE => ?_); simp only [go_sem, ntmps42]
 repeat' (first | (refine Qr rfl ?_; try intro _ hK; try simp only [go_sem, *]) | (refine Qi rfl rfl rfl rfl ?_ ?_ <;> (intro hb; (try intro _ hK); have hc := hb; try simp only [go_sem] at hc; simp only [go_sem, *])) | refine Qh rfl ?_ | refine Qd rfl (by kernel_rfl) ?_ | (refine Qc rfl rfl ?_ ?_ <;> (intro hb; have hc := hb; try simp only [go_sem] at hc)) | refine q6 rfl ?_ | (refine Qb ?_ ?_; focus kernel_rfl) | ((with_reducible apply And.intro); focus omega) | (refine z8 hK ?_; clear hK; simp only [go_sem, *]) | simp only [z6, z7, go_sem, *])
 all_goals try contradiction
 refine u5 rfl (w.length) (fun i (t : Truth) => RunP s w i t (some T) ∧ TOk s (s.steps.length - i) t) 82 (fun i t => [(11, iV i), (10, Q6 (t.now h)), (9, .ptr 2 0), (6, .ptr 1 0), (1, j5 w), (3, .ptr 0 0)]) (fun i t => [zRs s, .box [zL1], zL5 t.fin]) [some 0, some 2, some 4] [3] (X0 s) (by exact ⟨h0, k0⟩) ?_; intro i t hi hP
 clear h0 hff hfn k0
 obtain ⟨hP, hK1⟩ := hP
 by_cases hi : i < w.length
 ·have hi3 : (i : Int) < w.length := by omega
  have his : i < s.steps.length := by omega
  obtain ⟨b0, b1⟩ := hwb i his
  have hti := hP.len
  have hv := hP.val
  have hv3 := hv.len
  have hy := hP.yes hi
  have hn := hP.no hi
  have hc0 : zRt s t (w.getD i default) = (s.steps.getD i default).getD (w.getD i default).toNat default := by unfold zRt v6; rw [hti]
  rw [hc0] at hy hn
  have b2 : (w.getD i default).toNat < (s.steps.getD i default).length := by omega
  have sA := zHC t.fin ((s.steps.getD i default).getD (w.getD i default).toNat default) (by omega)
  have hE : o4 t.fin ((s.steps.getD i default).getD (w.getD i default).toNat default) = can t.fin ((s.steps.getD i default).getD (w.getD i default).toNat default) := by unfold o4; rw [if_pos ((T3 _).2 hv)]
  rw [hE] at sA
  have e : can t.fin ((s.steps.getD i default).getD (w.getD i default).toNat default) = 0 := by
   by_cases e : can t.fin ((s.steps.getD i default).getD (w.getD i default).toNat default) = 0
   ·exact e
   ·have := hn e; cases this
  have hP2 := hy e
  rw [e] at hE
  rw [if_pos e, e] at sA
  obtain ⟨k, hk⟩ : ∃ k, s.steps.length - i = k + 1 := ⟨s.steps.length - i - 1, by omega⟩
  have hk2 : s.steps.length - (i + 1) = k := by omega
  rw [hk] at hK1
  have hsm := hK1.small h3 hh
  have hK2 := hK1.next e (w.getD i default).toNat
  have hmm := hK1.mem h hh
  have hnn := zQO (i := (w.getD i default).toNat) t ((s.steps.getD i default).getD (w.getD i default).toNat default) h (s := s) (w := w)
  have hBB : ∀ x, x ∈ t.now h → x.Wf ∧ zDy t.fin ((s.steps.getD i default).getD (w.getD i default).toNat default) x = 0 ∧ zJI t.fin ((s.steps.getD i default).getD (w.getD i default).toNat default) x = s7 (mv t.fin ((s.steps.getD i default).getD (w.getD i default).toNat default) x) := fun x hx => by
   have hx2 := hmm x hx
   have b : zDy t.fin ((s.steps.getD i default).getD (w.getD i default).toNat default) x = 0 := by unfold zDy; rw [if_pos hE, if_pos hx2]
   exact ⟨hv.wf x hx2, b, by unfold zJI; rw [if_pos b]⟩
  have sB := fun x hx => zQb t.fin ((s.steps.getD i default).getD (w.getD i default).toNat default) x (by omega) hx
  have hBl : ∀ x, (s7 (mv t.fin ((s.steps.getD i default).getD (w.getD i default).toNat default) x)).length ≤ 2 := fun x => Nat.le_trans (N4 (R5 _).nodup (fun _ hx => mem_sortH.1 hx)) (zGQ _ _ x)
  have hf : (n0 t ((s.steps.getD i default).getD (w.getD i default).toNat default) (w.getD i default).toNat).fin = r4 t.fin ((s.steps.getD i default).getD (w.getD i default).toNat default) := rfl
  rw [← hf] at sA
  clear hP hc0 hti hE hwb hf hy hn e hmm
  generalize hz : w.getD i default = z at *
  generalize hcc : (s.steps.getD i default).getD z.toNat default = c at *
  generalize n0 t c z.toNat = t2 at *
  generalize t.now h = l at *
  have hfl : ([] : List House) ++ (l.drop 0).flatMap (fun x => s7 (mv t.fin c x)) = l.flatMap fun x => s7 (mv t.fin c x) := rfl
  have hLl : (l.flatMap fun x => s7 (mv t.fin c x)).length ≤ 16 := by
   have := zOi (f := fun x => s7 (mv t.fin c x)) (l := l) (N := 2) (fun x _ => hBl x)
   omega
  have sS := zLd (l.flatMap fun x => s7 (mv t.fin c x)) (by omega)
  rw [hnn] at sS
  clear hnn
  generalize (l.flatMap fun x => s7 (mv t.fin c x)) = L2 at *
  repeat' (first | (refine Qr rfl ?_; try intro _ hK; try simp only [go_sem, *]) | (refine Qi rfl rfl rfl rfl ?_ ?_ <;> (intro hb; (try intro _ hK); have hc := hb; try simp only [go_sem] at hc; simp only [go_sem, *])) | refine Qh rfl ?_ | refine Qd rfl (by kernel_rfl) ?_ | (refine Qc rfl rfl ?_ ?_ <;> (intro hb; have hc := hb; try simp only [go_sem] at hc)) | refine q6 rfl ?_ | (refine Qb ?_ ?_; focus kernel_rfl) | (refine q8 (sA) ?_; simp only [go_sem, *]) | ((with_reducible apply And.intro); focus omega) | (refine z8 hK ?_; clear hK; simp only [go_sem, *]) | simp only [z6, z7, go_sem, *])
  all_goals try contradiction
  clear sA hcc hz
  refine u5 rfl (l.length) (fun j (acc : List House) => acc ++ (l.drop j).flatMap (fun x => s7 (mv t.fin c x)) = L2) 82 (fun j acc => [(16, iV j), (15, .own 5 3 0 acc.length), (13, .ptr 4 0), (12, .ptr 3 0), (11, iV i), (10, Q6 l), (9, .ptr 2 0), (6, .ptr 1 0), (1, j5 w), (3, .ptr 0 0)]) (fun j acc => [zRs s, .box [zL1], zL5 t.fin, zMQ c, zL5 t2.fin, .row 3 (acc.map House.enc)]) [some 0, some 1, some 2, some 3, some 4, none] [] ([]) (by exact hfl) ?_; intro j acc hj hQ
  clear hfl
  have hql := congrArg List.length hQ
  simp only [List.length_append] at hql
  by_cases hj : j < l.length
  ·have hj3 : (j : Int) < l.length := by omega
   obtain ⟨f1, f2, f3⟩ := hBB _ (w9 hj)
   have sB1 := sB _ f1
   rw [f2, f3] at sB1
   have hb2 := hBl (l.getD j default)
   rw [u0 hj, List.flatMap_cons] at hQ
   clear hBB sB hBl f1 f2 f3 sS
   generalize s7 (mv t.fin c (l.getD j default)) = b at *
   have hb3 : ¬ ((b.length : Nat) : Int) > 2 := by omega
   repeat' (first | (refine Qr rfl ?_; try intro _ hK; try simp only [go_sem, *]) | (refine Qi rfl rfl rfl rfl ?_ ?_ <;> (intro hb; (try intro _ hK); have hc := hb; try simp only [go_sem] at hc; simp only [go_sem, *])) | refine Qh rfl ?_ | refine Qd rfl (by kernel_rfl) ?_ | (refine Qc rfl rfl ?_ ?_ <;> (intro hb; have hc := hb; try simp only [go_sem] at hc)) | refine q6 rfl ?_ | (with_reducible (show (∀ _ : AV, _ → _) ∧ _); refine And.intro ?_ ?_; (focus (intro y hy; first | (obtain ⟨z, _, rfl⟩ := List.mem_map.1 (hy); simp [go_sem]; done) | (obtain ⟨z, _, rfl⟩ := List.mem_map.1 (List.mem_of_mem_take hy); simp [go_sem]; done) | (obtain ⟨z, _, rfl⟩ := List.mem_map.1 (List.mem_of_mem_drop hy); simp [go_sem]; done) | (obtain ⟨z, _, rfl⟩ := List.mem_map.1 (List.mem_of_mem_drop (List.mem_of_mem_take hy)); simp [go_sem]; done)))) | (refine Qb ?_ ?_; focus kernel_rfl) | (refine q8 (sB1) ?_; simp only [go_sem, *]) | ((with_reducible apply And.intro); focus omega) | (refine z8 hK ?_; clear hK; simp only [go_sem, *]) | simp only [z6, z7, go_sem, *])
   all_goals try contradiction
   exact w7 (i' := j + 1) [some 0, some 1, some 2, some 3, some 4, some 6] [] (acc ++ b) (by rw [← hQ]; simp)
  ·have hj3 : ¬ (j : Int) < l.length := by omega
   rw [u9 (by omega), List.flatMap_nil, List.append_nil] at hQ
   subst hQ
   clear hBB sB hBl
   repeat' (first | (refine Qr rfl ?_; try intro _ hK; try simp only [go_sem, *]) | (refine Qi rfl rfl rfl rfl ?_ ?_ <;> (intro hb; (try intro _ hK); have hc := hb; try simp only [go_sem] at hc; simp only [go_sem, *])) | refine Qh rfl ?_ | refine Qd rfl (by kernel_rfl) ?_ | (refine Qc rfl rfl ?_ ?_ <;> (intro hb; have hc := hb; try simp only [go_sem] at hc)) | refine q6 rfl ?_ | (refine Qb ?_ ?_; focus kernel_rfl) | (refine o7 (sS) ?_ rfl ?_ ?_ ?_ ?_; (iterate 2 (focus (simp only [go_sem, *]; done))); (iterate 2 (focus (first | (simp; done) | (simp [go_sem]; done)))); simp only [go_sem, w5, *]) | ((with_reducible apply And.intro); focus omega) | (refine z8 hK ?_; clear hK; simp only [go_sem, *]) | simp only [z6, z7, go_sem, *])
   all_goals try contradiction
   exact w7 (i' := i + 1) [some 0, some 1, some 2] [] (t2) (by exact ⟨hP2, by rw [hk2]; exact hK2⟩)
 ·have hi3 : ¬ (i : Int) < w.length := by omega
  have hG := hP.fin (by omega)
  injection hG with hG
  subst hG
  clear hP hwl hwb hK1
  repeat' (first | (refine Qr rfl ?_; try intro _ hK; try simp only [go_sem, *]) | (refine Qi rfl rfl rfl rfl ?_ ?_ <;> (intro hb; (try intro _ hK); have hc := hb; try simp only [go_sem] at hc; simp only [go_sem, *])) | refine Qh rfl ?_ | refine Qd rfl (by kernel_rfl) ?_ | (refine Qc rfl rfl ?_ ?_ <;> (intro hb; have hc := hb; try simp only [go_sem] at hc)) | refine q6 rfl ?_ | (refine Qb ?_ ?_; focus kernel_rfl) | ((with_reducible apply And.intro); focus omega) | (refine z8 hK ?_; clear hK; simp only [go_sem, *]) | simp only [z6, z7, go_sem, *])
  all_goals try contradiction
  refine ⟨[x8 T.fin, Q6 (T.now h), iV 1], [], [], ⟨(by simp only [u1, go_sem]), rfl, rfl, trivial⟩, ?_⟩; simp only [go_sem, *]
end Go.Abs

namespace Go.Abs
open Go Go.Proofs Tryz
attribute [local irreducible] y6 Hold x7
end Go.Abs

namespace Go.Abs
open Go Go.Proofs Tryz
attribute [local irreducible] y6 Hold x7
@[reducible] def zNI (s : Story) : AObj := .box [.list (s.first.map y7), .list (s.steps.map i9), .list (s.facts.map Fact.enc)]
@[reducible] def zRw (hs : List House) (f : House → List House) : List AV := hs.map fun h => Q6 (f h)
@[go_sem, simp] theorem zRT (H : Nat → AObj) (m : List (Option Nat)) (ex : List Nat) (l : List House) (f : House → List House) : XpL H m ex (List.map (fun h => AV.list (List.map House.enc (f h))) l) (List.map (fun h => AV.list (List.map House.enc (f h))) l) ↔ True := ⟨fun _ => trivial, fun _ => zBD (fun x => by simp only [XpF]) _⟩
@[go_sem, simp] theorem zRb {α : Type} (H : Nat → AObj) (m : List (Option Nat)) (ex : List Nat) (f : α → List AV) (l : List α) (i : Nat) (x y : AV) : XpL H m ex (List.take i (List.map (fun t => AV.list (f t)) l) ++ [x]) (List.take i (List.map (fun t => AV.list (f t)) l) ++ [y]) ↔ XpF H m ex x y := by
 rw [L3 _ (fun z hz => by
  obtain ⟨t, _, rfl⟩ := List.mem_map.1 (List.mem_of_mem_take hz)
  simp only [XpF])]
@[go_sem, simp] theorem zRY {α : Type} (H : Nat → AObj) (m : List (Option Nat)) (ex : List Nat) (f : α → List AV) (l : List α) (x y : AV) : XpL H m ex (List.map (fun t => AV.list (f t)) l ++ [x]) (List.map (fun t => AV.list (f t)) l ++ [y]) ↔ XpF H m ex x y := by
 rw [L3 _ (fun z hz => by
  obtain ⟨t, _, rfl⟩ := List.mem_map.1 hz
  simp only [XpF])]
def zR0 (h : House) : List House := [h]
def FaR (s : Story) (T : Truth) (k : Nat) (b : Bool) (A : Bool) : Prop := (b = true ∧ f7 (s.facts.drop k) T = A) ∨ (b = false ∧ A = false)
end Go.Abs

namespace Go.Abs
open Go Go.Proofs Tryz
attribute [local irreducible] y6 Hold x7
@[reducible] def zRv (hs : List House) (f : House → List House) : List AV := hs.map fun h => Q6 (f h)
@[go_sem, simp] theorem zRU (H : Nat → AObj) (m : List (Option Nat)) (ex : List Nat) (l : List House) (f : House → List House) : XpL H m ex (List.map (fun h => AV.list (List.map House.enc (f h))) l) (List.map (fun h => AV.list (List.map House.enc (f h))) l) ↔ True := ⟨fun _ => trivial, fun _ => zBD (fun x => by simp only [XpF]) _⟩
@[go_sem, simp] theorem zPU {α : Type} (H : Nat → AObj) (m : List (Option Nat)) (ex : List Nat) (f : α → List AV) (l : List α) (x y : AV) : XpL H m ex (List.map (fun t => AV.list (f t)) l ++ [x]) (List.map (fun t => AV.list (f t)) l ++ [y]) ↔ XpF H m ex x y := by
 rw [L3 _ (fun z hz => by
  obtain ⟨t, _, rfl⟩ := List.mem_map.1 hz
  simp only [XpF])]
@[go_sem, simp] theorem zRa {α : Type} (H : Nat → AObj) (m : List (Option Nat)) (ex : List Nat) (f : α → List AV) (l : List α) : XpL H m ex (List.map (fun t => AV.list (f t)) l) (List.map (fun t => AV.list (f t)) l) ↔ True := ⟨fun _ => trivial, fun _ => zBD (fun x => by simp only [XpF]) _⟩
theorem zOJ (s : Story) (w : List Int) (hw : zRy s w) (h3 : s.steps.length ≤ 4294967296) : zLr prog 63 [s.enc, j5 w] [] (bV true) [] := by
 obtain ⟨hwl, hwb⟩ := hw
 have hn : ((w.length : Int) != (s.steps.length : Int)) = false := by simp; omega
 refine q9 func63 rfl (fun E hE => ?_); simp only [go_sem, ntmps63]
 repeat' (first | (refine Qr rfl ?_; try intro _ hK; try simp only [go_sem, *]) | (refine Qi rfl rfl rfl rfl ?_ ?_ <;> (intro hb; (try intro _ hK); have hc := hb; try simp only [go_sem] at hc; simp only [go_sem, *])) | refine Qh rfl ?_ | refine Qd rfl (by kernel_rfl) ?_ | (refine Qc rfl rfl ?_ ?_ <;> (intro hb; have hc := hb; try simp only [go_sem] at hc)) | refine q6 rfl ?_ | (refine Qb ?_ ?_; focus kernel_rfl) | ((with_reducible apply And.intro); focus omega) | (refine z8 hK ?_; clear hK; simp only [go_sem, *]) | simp only [z6, z7, go_sem, *])
 all_goals try contradiction
 clear hn
 refine u4 rfl (w.length) (fun i => NoP i) 37 (fun i => [(5, iV i), (2, .ptr 0 0), (1, j5 w)]) (fun i => [zRs s]) [some 0] [] (by trivial) ?_; intro i hi hP
 by_cases hi : i < w.length
 ·have hi3 : (i : Int) < w.length := by omega
  have his : i < s.steps.length := by omega
  obtain ⟨b0, b1⟩ := hwb i his
  clear hwl hwb
  generalize hz : w.getD i default = z at *
  have n1 : ¬ z < 0 := by omega
  have n2 : ¬ z ≥ ((s.steps.getD i default).length : Int) := by omega
  repeat' (first | (refine Qr rfl ?_; try intro _ hK; try simp only [go_sem, *]) | (refine Qi rfl rfl rfl rfl ?_ ?_ <;> (intro hb; (try intro _ hK); have hc := hb; try simp only [go_sem] at hc; simp only [go_sem, *])) | refine Qh rfl ?_ | refine Qd rfl (by kernel_rfl) ?_ | (refine Qc rfl rfl ?_ ?_ <;> (intro hb; have hc := hb; try simp only [go_sem] at hc)) | refine q6 rfl ?_ | (refine Qb ?_ ?_; focus kernel_rfl) | ((with_reducible apply And.intro); focus omega) | (refine z8 hK ?_; clear hK; simp only [go_sem, *]) | simp only [z6, z7, go_sem, *])
  all_goals first | contradiction | omega | skip
  exact u3 (i' := i + 1) [some 0] [] (by trivial)
 ·have hi3 : ¬ (i : Int) < w.length := by omega
  clear hwl
  repeat' (first | (refine Qr rfl ?_; try intro _ hK; try simp only [go_sem, *]) | (refine Qi rfl rfl rfl rfl ?_ ?_ <;> (intro hb; (try intro _ hK); have hc := hb; try simp only [go_sem] at hc; simp only [go_sem, *])) | refine Qh rfl ?_ | refine Qd rfl (by kernel_rfl) ?_ | (refine Qc rfl rfl ?_ ?_ <;> (intro hb; have hc := hb; try simp only [go_sem] at hc)) | refine q6 rfl ?_ | (refine Qb ?_ ?_; focus kernel_rfl) | ((with_reducible apply And.intro); focus omega) | (refine z8 hK ?_; clear hK; simp only [go_sem, *]) | simp only [z6, z7, go_sem, *])
  all_goals try contradiction
  (refine ⟨[_], [], [], ⟨rfl, trivial⟩, ?_⟩; simp only [go_sem, *])
end Go.Abs

namespace Go.Abs
open Go Go.Proofs Tryz
attribute [local irreducible] y6 Hold x7
def zOP : Code → Code
 | .seq x (.scope c) => .seq x c
 | c => c
def zP3 : Code → Bool
 | .seq _ (.scope _) => true
 | _ => false
theorem zOL {P : Program} {f : FuncId} {fn : Func} {args : List AV} {fp : List AObj} {r : AV} {out : List AObj} (hf : P.funcs[f]? = some fn) (hb : fn.body.isSome = true) (hs : zP3 (B7 fn) = true)
  (h : ∀ E : Env, E.n = fp.length → Hold P E (sub [0] (zOP (B7 fn))) (z6 (Hold P E (sub [1] (zOP (B7 fn))) (fun e σ' => (e = .normal ∨ e = .ret) ∧ zBB P fn fp.length r out σ')) (fun e σ' => (e = .normal ∨ e = .ret) ∧ zBB P fn fp.length r out σ'))
   ⟨args.length + (fn.ntmps - args.length), zMS 0 args, zL0 0 fp⟩) : zLr P f args fp r out := by
 refine q9 hf hb (fun E hE => ?_)
 have := h E hE
 simp only [sub] at this ⊢
 cases hc : B7 fn with
 | seq x y =>
  cases y with
  | scope c =>
   rw [hc] at this
   simp only [zOP, zBT] at this
   refine zFm (this.mono ?_)
   rintro e σ' hq
   cases e with
   | normal =>
    have hq2 : Hold P E c (fun e σ' => (e = .normal ∨ e = .ret) ∧ zBB P fn fp.length r out σ') σ' := hq
    show Hold P E (.scope c) _ σ'
    unfold Hold at hq2 ⊢
    intro a w hw
    refine wp_scope_straight (wp_mono (hq2 a w hw) ?_)
    rintro e a1 w1 ⟨σ2, ⟨h1, h2⟩, h3⟩
    rcases h1 with rfl | rfl
    ·exact ⟨σ2, ⟨.inl rfl, h2⟩, h3⟩
    ·exact ⟨σ2, ⟨.inr rfl, h2⟩, h3⟩
   | _ => exact hq
  | _ => rw [hc] at hs; cases hs
 | _ => rw [hc] at hs; cases hs
def zNA (l : List Truth) (h : House) : Bool := l.all fun t => decide ((t.now h).length = 0)
def zNP (s : Story) : Int := if r9 s = 0 then if r6 s = [] then 11 else 0 else r9 s
def zNK (s : Story) : List House := if r9 s = 0 then if r6 s = [] then [] else (y4 s.first).filter (zNA (r6 s)) else []
def zNp (l : List Truth) (h : House) (j : Nat) : Prop := ∀ t, t ∈ l.take j → (t.now h).length = 0
theorem zP8 {l : List Truth} {h : House} {j : Nat} (hj : j < l.length) (e : 0 < ((l.getD j default).now h).length) : zNA l h = false := by
 unfold zNA
 rw [List.all_eq_false]
 exact ⟨_, w9 hj, by simp only [decide_eq_true_eq]; omega⟩
theorem zP5 {l : List Truth} {h : House} {j : Nat} (hj : l.length ≤ j) (e : zNp l h j) : zNA l h = true := by
 unfold zNA
 rw [List.all_eq_true]
 intro t ht
 rw [zNp, List.take_of_length_le hj] at e
 simpa using e t ht
theorem zP7 {l : List Truth} {h : House} {j : Nat} (hj : j < l.length) (e : zNp l h j) (e2 : ¬ 0 < ((l.getD j default).now h).length) : zNp l h (j + 1) := by
 intro t ht
 rw [Q0 hj] at ht
 rcases List.mem_append.1 ht with ht | ht
 ·exact e t ht
 ·rw [List.mem_singleton.1 ht]; omega
theorem zPA (s : Story) (hst : s.steps.length ≤ 4294967296) (hwl : ∀ w, w ∈ s.steps → w.length ≤ 4294967296) (hfl : s.facts.length ≤ 4294967296) (hpl : s.first.length ≤ 4294967296) :
  zLr prog 72 [s.enc] [] (.tup [.list ((zNK s).map House.enc), iV (zNP s)]) [] := by
 unfold zNK zNP
 by_cases e : r9 s = 0
 ·have sa := zAv s e
  have o := C5 e
  have v := o.first
  have hct := v.count
  have hw := v.wf
  have hl := H2 o.steps (fun w hw => (o.ways w hw).2.1)
  have hsm : ∀ t, t ∈ r6 s → ∀ x, x ∈ y4 s.first → (t.now x).length ≤ 1000 := fun t hm x hx => by have := (zDW v t hm).small o.steps hx; omega
  rw [if_pos e, if_pos e]
  clear e hst hwl hfl hpl
  by_cases hne : r6 s = []
  ·rw [if_pos hne, if_pos hne]
   rw [hne] at sa
   refine zOL func72 rfl (by kernel_rfl) (fun E hE => ?_); simp only [go_sem, ntmps72]
   repeat' (first | (refine Qr rfl ?_; try intro _ hK; try simp only [go_sem, *]) | (refine Qi rfl rfl rfl rfl ?_ ?_ <;> (intro hb; (try intro _ hK); have hc := hb; try simp only [go_sem] at hc; simp only [go_sem, *])) | refine Qh rfl ?_ | refine Qd rfl (by kernel_rfl) ?_ | (refine Qc rfl rfl ?_ ?_ <;> (intro hb; have hc := hb; try simp only [go_sem] at hc)) | refine q6 rfl ?_ | (refine Qb ?_ ?_; focus kernel_rfl) | (refine u2 (sa) ?_; simp only [go_sem, *]) | ((with_reducible apply And.intro); focus omega) | (refine z8 hK ?_; clear hK; simp only [go_sem, *]) | simp only [z6, z7, go_sem, *])
   all_goals try contradiction
   (refine ⟨[_, _], [], [], ⟨rfl, rfl, trivial⟩, ?_⟩; simp only [go_sem, *])
  ·rw [if_neg hne, if_neg hne]
   have hl0 : (((r6 s).length : Int) == 0) = false := by
    have := List.length_pos_iff.2 hne
    rw [beq_eq_false_iff_ne]; omega
   have h0 : ([] : List House) ++ ((y4 s.first).drop 0).filter (zNA (r6 s)) = (y4 s.first).filter (zNA (r6 s)) := rfl
   generalize (y4 s.first).filter (zNA (r6 s)) = R at *
   clear hne
   generalize r6 s = L at *
   refine zOL func72 rfl (by kernel_rfl) (fun E hE => ?_); simp only [go_sem, ntmps72]
   repeat' (first | (refine Qr rfl ?_; try intro _ hK; try simp only [go_sem, *]) | (refine Qi rfl rfl rfl rfl ?_ ?_ <;> (intro hb; (try intro _ hK); have hc := hb; try simp only [go_sem] at hc; simp only [go_sem, *])) | refine Qh rfl ?_ | refine Qd rfl (by kernel_rfl) ?_ | (refine Qc rfl rfl ?_ ?_ <;> (intro hb; have hc := hb; try simp only [go_sem] at hc)) | refine q6 rfl ?_ | (refine Qb ?_ ?_; focus kernel_rfl) | (refine u2 (sa) ?_; simp only [go_sem, *]) | ((with_reducible apply And.intro); focus omega) | (refine z8 hK ?_; clear hK; simp only [go_sem, *]) | simp only [z6, z7, go_sem, *])
   all_goals try contradiction
   clear hl0 sa
   refine u5 rfl ((y4 s.first).length) (fun i (acc : List House) => acc ++ ((y4 s.first).drop i).filter (zNA L) = R ∧ acc.length ≤ i) 52 (fun i acc => [(29, iV i), (28, iV (y4 s.first).length), (27, .list ((y4 s.first).map House.enc)), (7, .own 0 3 0 acc.length), (5, .list (L.map (Truth.enc s.first)))]) (fun i acc => [.row 3 (acc.map House.enc)]) [none] [] ([]) (by exact ⟨h0, Nat.le_refl _⟩) ?_; intro i acc hi hP
   clear h0
   obtain ⟨hP, hacc⟩ := hP
   by_cases hi : i < (y4 s.first).length
   ·have hi3 : (i : Int) < (y4 s.first).length := by omega
    have hm := w9 hi
    have hwf := hw _ hm
    rw [u0 hi] at hP
    have hno := fun j => zP8 (l := L) (h := (y4 s.first).getD i default) (j := j)
    have hen := fun j => zP5 (l := L) (h := (y4 s.first).getD i default) (j := j)
    have hyes : zNA L ((y4 s.first).getD i default) = true → (acc ++ [(y4 s.first).getD i default]) ++ ((y4 s.first).drop (i + 1)).filter (zNA L) = R := fun e => by rw [← hP, List.filter_cons_of_pos e]; simp
    have hnot : zNA L ((y4 s.first).getD i default) = false → acc ++ ((y4 s.first).drop (i + 1)).filter (zNA L) = R := fun e => by rw [← hP, List.filter_cons_of_neg (by rw [e]; simp)]
    clear hP
    generalize hgd : (y4 s.first).getD i default = h at *
    have hwf0 := hw
    clear hw
    repeat' (first | (refine Qr rfl ?_; try intro _ hK; try simp only [go_sem, *]) | (refine Qi rfl rfl rfl rfl ?_ ?_ <;> (intro hb; (try intro _ hK); have hc := hb; try simp only [go_sem] at hc; simp only [go_sem, *])) | refine Qh rfl ?_ | refine Qd rfl (by kernel_rfl) ?_ | (refine Qc rfl rfl ?_ ?_ <;> (intro hb; have hc := hb; try simp only [go_sem] at hc)) | refine q6 rfl ?_ | (refine Qb ?_ ?_; focus kernel_rfl) | ((with_reducible apply And.intro); focus omega) | (refine z8 hK ?_; clear hK; simp only [go_sem, *]) | simp only [z6, z7, go_sem, *])
    all_goals try contradiction
    refine u4 rfl (L.length) (fun j => zNp L h j) 52 (fun j => [(35, iV j), (34, iV L.length), (33, .list (L.map (Truth.enc s.first))), (9, .ptr 1 0), (29, iV i), (28, iV (y4 s.first).length), (27, .list ((y4 s.first).map House.enc)), (7, .own 0 3 0 acc.length), (5, .list (L.map (Truth.enc s.first)))]) (fun j => [.row 3 (acc.map House.enc), .box [iV h.street, iV h.plate.number, iV h.plate.letter]]) [some 0, some 1] [] (by intro t ht; cases ht) ?_; intro j hj hQ
    by_cases hj : j < L.length
    ·have hj3 : (j : Int) < L.length := by omega
     have hxl := hsm _ (w9 hj) _ hm
     have hn1 := hno j hj
     have hn2 := zP7 hj hQ
     clear hno hen
     repeat' (first | (refine Qr rfl ?_; try intro _ hK; try simp only [go_sem, *]) | (refine Qi rfl rfl rfl rfl ?_ ?_ <;> (intro hb; (try intro _ hK); have hc := hb; try simp only [go_sem] at hc; simp only [go_sem, *])) | refine Qh rfl ?_ | refine Qd rfl (by kernel_rfl) ?_ | (refine Qc rfl rfl ?_ ?_ <;> (intro hb; have hc := hb; try simp only [go_sem] at hc)) | refine q6 rfl ?_ | (refine Qb ?_ ?_; focus kernel_rfl) | ((with_reducible apply And.intro); focus omega) | (refine z8 hK ?_; clear hK; simp only [go_sem, *]) | simp only [z6, z7, go_sem, *])
     refine V9 (h := h) (hs := y4 s.first) (F := zLu (L.getD j default).now) hwf0 hwf ?_
     rw [if_pos hm, zLu]
     by_cases hz : 0 < ((L.getD j default).now h).length
     ·have hz3 : ((((L.getD j default).now h).length : Nat) : Int) > 0 := by omega
      have hP2 := hnot (hn1 hz)
      clear hn1 hn2 hyes hnot
      repeat' (first | (refine Qr rfl ?_; try intro _ hK; try simp only [go_sem, *]) | (refine Qi rfl rfl rfl rfl ?_ ?_ <;> (intro hb; (try intro _ hK); have hc := hb; try simp only [go_sem] at hc; simp only [go_sem, *])) | refine Qh rfl ?_ | refine Qd rfl (by kernel_rfl) ?_ | (refine Qc rfl rfl ?_ ?_ <;> (intro hb; have hc := hb; try simp only [go_sem] at hc)) | refine q6 rfl ?_ | (refine Qb ?_ ?_; focus kernel_rfl) | ((with_reducible apply And.intro); focus omega) | (refine z8 hK ?_; clear hK; simp only [go_sem, *]) | simp only [z6, z7, go_sem, *])
      all_goals try contradiction
      exact w7 (i' := i + 1) [some 0] [] (acc) (by exact ⟨hP2, by omega⟩)
     ·have hz3 : ¬ ((((L.getD j default).now h).length : Nat) : Int) > 0 := by omega
      have hQ2 := hn2 hz
      clear hn1 hn2 hyes hnot
      repeat' (first | (refine Qr rfl ?_; try intro _ hK; try simp only [go_sem, *]) | (refine Qi rfl rfl rfl rfl ?_ ?_ <;> (intro hb; (try intro _ hK); have hc := hb; try simp only [go_sem] at hc; simp only [go_sem, *])) | refine Qh rfl ?_ | refine Qd rfl (by kernel_rfl) ?_ | (refine Qc rfl rfl ?_ ?_ <;> (intro hb; have hc := hb; try simp only [go_sem] at hc)) | refine q6 rfl ?_ | (refine Qb ?_ ?_; focus kernel_rfl) | ((with_reducible apply And.intro); focus omega) | (refine z8 hK ?_; clear hK; simp only [go_sem, *]) | simp only [z6, z7, go_sem, *])
      all_goals try contradiction
      exact u3 (i' := j + 1) [some 0, some 1] [] (by exact hQ2)
    ·have hj3 : ¬ (j : Int) < L.length := by omega
     have hy := hyes (hen j (by omega) hQ)
     clear hno hen hnot hyes
     repeat' (first | (refine Qr rfl ?_; try intro _ hK; try simp only [go_sem, *]) | (refine Qi rfl rfl rfl rfl ?_ ?_ <;> (intro hb; (try intro _ hK); have hc := hb; try simp only [go_sem] at hc; simp only [go_sem, *])) | refine Qh rfl ?_ | refine Qd rfl (by kernel_rfl) ?_ | (refine Qc rfl rfl ?_ ?_ <;> (intro hb; have hc := hb; try simp only [go_sem] at hc)) | refine q6 rfl ?_ | (refine Qb ?_ ?_; focus kernel_rfl) | ((with_reducible apply And.intro); focus omega) | (refine z8 hK ?_; clear hK; simp only [go_sem, *]) | simp only [z6, z7, go_sem, *])
     all_goals try contradiction
     exact w7 (i' := i + 1) [some 3] [] (acc ++ [h]) (by exact ⟨hy, by simp; omega⟩)
   ·have hi3 : ¬ (i : Int) < (y4 s.first).length := by omega
    rw [u9 (by omega), List.filter_nil, List.append_nil] at hP
    subst hP
    repeat' (first | (refine Qr rfl ?_; try intro _ hK; try simp only [go_sem, *]) | (refine Qi rfl rfl rfl rfl ?_ ?_ <;> (intro hb; (try intro _ hK); have hc := hb; try simp only [go_sem] at hc; simp only [go_sem, *])) | refine Qh rfl ?_ | refine Qd rfl (by kernel_rfl) ?_ | (refine Qc rfl rfl ?_ ?_ <;> (intro hb; have hc := hb; try simp only [go_sem] at hc)) | refine q6 rfl ?_ | (refine Qb ?_ ?_; focus kernel_rfl) | ((with_reducible apply And.intro); focus omega) | (refine z8 hK ?_; clear hK; simp only [go_sem, *]) | simp only [z6, z7, go_sem, *])
    all_goals try contradiction
    refine ⟨[_, _], [], [0], ⟨rfl, rfl, trivial⟩, ?_⟩
    simp only [go_sem, *]
 ·rw [if_neg e, if_neg e]
  have sa := zLY s hst hwl hfl hpl e
  have e2 : (r9 s != 0) = true := by simpa using e
  clear e
  generalize r9 s = k at *
  refine zOL func72 rfl (by kernel_rfl) (fun E hE => ?_); simp only [go_sem, ntmps72]
  repeat' (first | (refine Qr rfl ?_; try intro _ hK; try simp only [go_sem, *]) | (refine Qi rfl rfl rfl rfl ?_ ?_ <;> (intro hb; (try intro _ hK); have hc := hb; try simp only [go_sem] at hc; simp only [go_sem, *])) | refine Qh rfl ?_ | refine Qd rfl (by kernel_rfl) ?_ | (refine Qc rfl rfl ?_ ?_ <;> (intro hb; have hc := hb; try simp only [go_sem] at hc)) | refine q6 rfl ?_ | (refine Qb ?_ ?_; focus kernel_rfl) | (refine q8 (sa) ?_; simp only [go_sem, *]) | ((with_reducible apply And.intro); focus omega) | (refine z8 hK ?_; clear hK; simp only [go_sem, *]) | simp only [z6, z7, go_sem, *])
  all_goals try contradiction
  (refine ⟨[_, _], [], [], ⟨rfl, rfl, trivial⟩, ?_⟩; simp only [go_sem, *])
end Go.Abs

namespace Go.Abs
open Go Go.Proofs Tryz
attribute [local irreducible] y6 Hold x7
theorem zOR {s : Story} (h : House) (o : Told s) (hh : h ∈ y4 s.first) : (P2 s h).length ≤ 216 := by
 have h1 := zNs (fun t : Truth => t.now h) 8 (r6 s) (fun t ht => ((zDW o.first) t ht).small o.steps hh)
 have h2 := H2 o.steps (fun w hw => (o.ways w hw).2.1)
 unfold P2
 omega
theorem zOG (s : Story) (h : House) (hst : s.steps.length ≤ 4294967296) (hwl : ∀ w, w ∈ s.steps → w.length ≤ 4294967296) (hfl : s.facts.length ≤ 4294967296) (hpl : s.first.length ≤ 4294967296) :
  zLr prog 58 [s.enc, h.enc] [] (.tup [.list ((zNR s h).map House.enc), iV (M8 s h)]) [] := by
 unfold zNR
 by_cases he : M8 s h = 0
 ·obtain ⟨hs, hh, hne⟩ := zOS he
  have o := C5 hs
  have hl := H2 o.steps (fun w hw => (o.ways w hw).2.1)
  have ht := zDW o.first
  have sa := zAv s hs
  have sc := zAr (y4 s.first) h (by have := o.first.count; omega)
  have e0 : decide (h ∈ y4 s.first) = true := by simpa using hh
  rw [e0] at sc
  have hWl := zOR h o hh
  have ss := zPN (P2 s h) (by omega)
  have hw := o.first.wf
  have hwf := hw _ hh
  have h3 := o.steps
  have hsm : ∀ t, t ∈ r6 s → (t.now h).length ≤ 8 := fun t hm => (ht t hm).small h3 hh
  rw [if_pos he, he]
  unfold zA3
  have hwl : ([] : List House) ++ ((r6 s).drop 0).flatMap (fun t => t.now h) = P2 s h := rfl
  generalize P2 s h = W at *
  generalize r6 s = l at *
  have hl0 : ((l.length : Int) == 0) = false := by
   have : 0 < l.length := List.length_pos_iff.2 hne
   simp; omega
  clear he e0 ht hne hst hfl hpl
  refine q9 func58 rfl (fun E hE => ?_); simp only [go_sem, ntmps58]
  repeat' (first | (refine Qr rfl ?_; try intro _ hK; try simp only [go_sem, *]) | refine Qh rfl ?_ | refine Qd rfl (by kernel_rfl) ?_ | (refine Qc rfl rfl ?_ ?_ <;> (intro hb; have hc := hb; try simp only [go_sem] at hc)) | refine q6 rfl ?_ | (refine Qb ?_ ?_; focus kernel_rfl) | (refine u2 (sa) ?_; simp only [go_sem, *]) | (refine q8 (sc) ?_; simp only [go_sem, *]) | ((with_reducible apply And.intro); focus omega) | (refine z8 hK ?_; clear hK; simp only [go_sem, *]) | simp only [z6, z7, go_sem, *])
  all_goals try contradiction
  clear sa sc hl0
  refine u5 rfl (l.length) (fun i (acc : List House) => acc ++ (l.drop i).flatMap (fun t => t.now h) = W) 46 (fun i acc => [(33, iV i), (32, iV l.length), (31, .list (l.map (Truth.enc s.first))), (9, .own 1 3 0 acc.length), (3, .ptr 0 0)]) (fun i acc => [.box [iV h.street, iV h.plate.number, iV h.plate.letter], .row 3 (acc.map House.enc)]) [some 1, none] [] ([]) (by exact hwl) ?_; intro i acc hi hP
  clear hwl
  have hql := congrArg List.length hP
  simp only [List.length_append] at hql
  by_cases hi2 : i < l.length
  ·have hti := hsm _ (w9 hi2)
   rw [u0 hi2, List.flatMap_cons] at hP
   repeat' (first | (refine Qr rfl ?_; try intro _ hK; try simp only [go_sem, *]) | refine Qh rfl ?_ | refine Qd rfl (by kernel_rfl) ?_ | (refine Qc rfl rfl ?_ ?_ <;> (intro hb; have hc := hb; try simp only [go_sem] at hc)) | refine q6 rfl ?_ | (refine Qb ?_ ?_; focus kernel_rfl) | ((with_reducible apply And.intro); focus omega) | (refine z8 hK ?_; clear hK; simp only [go_sem, *]) | simp only [z6, z7, go_sem, *])
   refine V9 (h := h) (hs := y4 s.first) (F := zLu (l.getD i default).now) hw hwf ?_
   rw [if_pos hh, zLu]
   repeat' (first | (refine Qr rfl ?_; try intro _ hK; try simp only [go_sem, *]) | refine Qh rfl ?_ | refine Qd rfl (by kernel_rfl) ?_ | (refine Qc rfl rfl ?_ ?_ <;> (intro hb; have hc := hb; try simp only [go_sem] at hc)) | refine q6 rfl ?_ | (refine Qb ?_ ?_; focus kernel_rfl) | ((with_reducible apply And.intro); focus omega) | (refine z8 hK ?_; clear hK; simp only [go_sem, *]) | simp only [z6, z7, go_sem, *])
   refine ⟨fun y hy => ?_, fun y hy => ?_, by omega, ?_⟩
   ·obtain ⟨z, _, rfl⟩ := List.mem_map.1 hy
    simp [go_sem]
   ·obtain ⟨z, _, rfl⟩ := List.mem_map.1 hy
    simp [go_sem]
   ·repeat' (first | (refine Qr rfl ?_; try intro _ hK; try simp only [go_sem, *]) | refine Qh rfl ?_ | refine Qd rfl (by kernel_rfl) ?_ | (refine Qc rfl rfl ?_ ?_ <;> (intro hb; have hc := hb; try simp only [go_sem] at hc)) | refine q6 rfl ?_ | (refine Qb ?_ ?_; focus kernel_rfl) | ((with_reducible apply And.intro); focus omega) | (refine z8 hK ?_; clear hK; simp only [go_sem, *]) | simp only [z6, z7, go_sem, *])
    exact w7 (i' := i + 1) [some 0, some 3] [] (acc ++ (l.getD i default).now h) (by rw [← hP]; simp)
  ·rw [u9 (by omega), List.flatMap_nil, List.append_nil] at hP
   subst hP
   clear hql
   repeat' (first | (refine Qr rfl ?_; try intro _ hK; try simp only [go_sem, *]) | refine Qh rfl ?_ | refine Qd rfl (by kernel_rfl) ?_ | (refine Qc rfl rfl ?_ ?_ <;> (intro hb; have hc := hb; try simp only [go_sem] at hc)) | refine q6 rfl ?_ | (refine Qb ?_ ?_; focus kernel_rfl) | ((with_reducible apply And.intro); focus omega) | (refine z8 hK ?_; clear hK; simp only [go_sem, *]) | simp only [z6, z7, go_sem, *])
   (refine o7 (ss) (by simp only [go_sem, *]; done) rfl (by simp only [go_sem]; done) (by simp) (by simp) ?_; simp only [go_sem, w5, *])
   repeat' (first | (refine Qr rfl ?_; try intro _ hK; try simp only [go_sem, *]) | refine Qh rfl ?_ | refine Qd rfl (by kernel_rfl) ?_ | (refine Qc rfl rfl ?_ ?_ <;> (intro hb; have hc := hb; try simp only [go_sem] at hc)) | refine q6 rfl ?_ | (refine Qb ?_ ?_; focus kernel_rfl) | ((with_reducible apply And.intro); focus omega) | (refine z8 hK ?_; clear hK; simp only [go_sem, *]) | simp only [z6, z7, go_sem, *])
   (refine ⟨[_, _], [], [], ⟨rfl, rfl, trivial⟩, ?_⟩; simp only [go_sem, *])
 ·rw [if_neg he]
  by_cases hs : r9 s = 0
  ·have o := C5 hs
   have sa := zAv s hs
   have sc := zAr (y4 s.first) h (by have := o.first.count; omega)
   unfold M8 at he ⊢
   rw [if_pos hs] at he ⊢
   by_cases hh : h ∈ y4 s.first
   ·rw [if_pos hh] at he ⊢
    by_cases ht : r6 s = []
    ·rw [if_pos ht]
     rw [ht] at sa
     rw [decide_eq_true hh] at sc
     clear he hh ht hst hwl hfl hpl
     refine q9 func58 rfl (fun E hE => ?_); simp only [go_sem, ntmps58]
     repeat' (first | (refine Qr rfl ?_; try intro _ hK; try simp only [go_sem, *]) | refine Qh rfl ?_ | refine Qd rfl (by kernel_rfl) ?_ | (refine Qc rfl rfl ?_ ?_ <;> (intro hb; have hc := hb; try simp only [go_sem] at hc)) | refine q6 rfl ?_ | (refine Qb ?_ ?_; focus kernel_rfl) | (refine u2 (sa) ?_; simp only [go_sem, *]) | (refine q8 (sc) ?_; simp only [go_sem, *]) | ((with_reducible apply And.intro); focus omega) | (refine z8 hK ?_; clear hK; simp only [go_sem, *]) | simp only [z6, z7, go_sem, *])
     all_goals try contradiction
     (refine ⟨[_, _], [], [], ⟨rfl, rfl, trivial⟩, ?_⟩; simp only [go_sem, *])
    ·rw [if_neg ht] at he; exact absurd rfl he
   ·rw [if_neg hh]
    rw [decide_eq_false hh] at sc
    clear he hh hst hwl hfl hpl
    refine q9 func58 rfl (fun E hE => ?_); simp only [go_sem, ntmps58]
    repeat' (first | (refine Qr rfl ?_; try intro _ hK; try simp only [go_sem, *]) | refine Qh rfl ?_ | refine Qd rfl (by kernel_rfl) ?_ | (refine Qc rfl rfl ?_ ?_ <;> (intro hb; have hc := hb; try simp only [go_sem] at hc)) | refine q6 rfl ?_ | (refine Qb ?_ ?_; focus kernel_rfl) | (refine u2 (sa) ?_; simp only [go_sem, *]) | (refine q8 (sc) ?_; simp only [go_sem, *]) | ((with_reducible apply And.intro); focus omega) | (refine z8 hK ?_; clear hK; simp only [go_sem, *]) | simp only [z6, z7, go_sem, *])
    all_goals try contradiction
    (refine ⟨[_, _], [], [], ⟨rfl, rfl, trivial⟩, ?_⟩; simp only [go_sem, *])
  ·have sa := zLY s hst hwl hfl hpl hs
   unfold M8
   rw [if_neg hs]
   have e2 : (r9 s != 0) = true := by simpa using hs
   clear hs he hst hwl hfl hpl
   generalize r9 s = k at *
   refine q9 func58 rfl (fun E hE => ?_); simp only [go_sem, ntmps58]
   repeat' (first | (refine Qr rfl ?_; try intro _ hK; try simp only [go_sem, *]) | refine Qh rfl ?_ | refine Qd rfl (by kernel_rfl) ?_ | (refine Qc rfl rfl ?_ ?_ <;> (intro hb; have hc := hb; try simp only [go_sem] at hc)) | refine q6 rfl ?_ | (refine Qb ?_ ?_; focus kernel_rfl) | (refine q8 (sa) ?_; simp only [go_sem, *]) | ((with_reducible apply And.intro); focus omega) | (refine z8 hK ?_; clear hK; simp only [go_sem, *]) | simp only [z6, z7, go_sem, *])
   all_goals try contradiction
   (refine ⟨[_, _], [], [], ⟨rfl, rfl, trivial⟩, ?_⟩; simp only [go_sem, *])
theorem zPE (s : Story) (h to : House) (hst : s.steps.length ≤ 4294967296) (hwl : ∀ w, w ∈ s.steps → w.length ≤ 4294967296) (hfl : s.facts.length ≤ 4294967296) (hpl : s.first.length ≤ 4294967296) :
  zLr prog 60 [s.enc, h.enc, to.enc] [] (.tup [iV (zNn s h to), iV (M8 s h)]) [] := by
 unfold zNn
 by_cases he : M8 s h = 0
 ·obtain ⟨hs, hh, hne⟩ := zOS he
  have o := C5 hs
  have hl := H2 o.steps (fun w hw => (o.ways w hw).2.1)
  have sa := zAv s hs
  have sc := zAr (y4 s.first) h (by have := o.first.count; omega)
  rw [decide_eq_true hh] at sc
  have hw := o.first.wf
  have hwf := hw _ hh
  have h3 := o.steps
  have sC := fun (t : Truth) (ht : t ∈ r6 s) => zAr (t.now h) to (by have := ((zDW o.first) t ht).small h3 hh; omega)
  rw [if_pos he, he]
  have h0 : 0 + ((r6 s).drop 0).countP (fun t => decide (to ∈ t.now h)) = zNJ s h to := by rw [Nat.zero_add]; rfl
  have hvl : zNJ s h to ≤ (r6 s).length := List.countP_le_length
  generalize zNJ s h to = V at *
  generalize r6 s = l at *
  have hlp : 0 < l.length := List.length_pos_iff.2 hne
  have hl0 : ((l.length : Int) == 0) = false := by simp; omega
  clear he hne hst hwl hfl hpl
  refine q9 func60 rfl (fun E hE => ?_); simp only [go_sem, ntmps60]
  repeat' (first | (refine Qr rfl ?_; try intro _ hK; try simp only [go_sem, *]) | refine Qh rfl ?_ | refine Qd rfl (by kernel_rfl) ?_ | (refine Qc rfl rfl ?_ ?_ <;> (intro hb; have hc := hb; try simp only [go_sem] at hc)) | refine q6 rfl ?_ | (refine Qb ?_ ?_; focus kernel_rfl) | (refine u2 (sa) ?_; simp only [go_sem, *]) | (refine q8 (sc) ?_; simp only [go_sem, *]) | ((with_reducible apply And.intro); focus omega) | (refine z8 hK ?_; clear hK; simp only [go_sem, *]) | simp only [z6, z7, go_sem, *])
  all_goals try contradiction
  clear sa sc hl0
  refine u5 rfl (l.length) (fun i (n : Nat) => n + (l.drop i).countP (fun t => decide (to ∈ t.now h)) = V) 55 (fun i n => [(35, iV i), (34, iV l.length), (33, .list (l.map (Truth.enc s.first))), (11, iV n), (9, .list (l.map (Truth.enc s.first))), (5, .ptr 1 0), (4, .ptr 0 0)]) (fun i n => [.box [iV h.street, iV h.plate.number, iV h.plate.letter], .box [iV to.street, iV to.plate.number, iV to.plate.letter]]) [some 1, some 2] [] (0) (by exact h0) ?_; intro i n hi hP
  clear h0
  by_cases hi : i < l.length
  ·have hi3 : (i : Int) < l.length := by omega
   rw [zEG hi] at hP
   have sC1 := sC _ (w9 hi)
   clear sC
   repeat' (first | (refine Qr rfl ?_; try intro _ hK; try simp only [go_sem, *]) | refine Qh rfl ?_ | refine Qd rfl (by kernel_rfl) ?_ | (refine Qc rfl rfl ?_ ?_ <;> (intro hb; have hc := hb; try simp only [go_sem] at hc)) | refine q6 rfl ?_ | (refine Qb ?_ ?_; focus kernel_rfl) | ((with_reducible apply And.intro); focus omega) | (refine z8 hK ?_; clear hK; simp only [go_sem, *]) | simp only [z6, z7, go_sem, *])
   refine V9 (h := h) (hs := y4 s.first) (F := zLu (l.getD i default).now) hw hwf ?_
   rw [if_pos hh, zLu]
   cases hd : decide (to ∈ (l.getD i default).now h) with
   | true =>
    rw [hd] at sC1 hP
    clear hd
    repeat' (first | (refine Qr rfl ?_; try intro _ hK; try simp only [go_sem, *]) | refine Qh rfl ?_ | refine Qd rfl (by kernel_rfl) ?_ | (refine Qc rfl rfl ?_ ?_ <;> (intro hb; have hc := hb; try simp only [go_sem] at hc)) | refine q6 rfl ?_ | (refine Qb ?_ ?_; focus kernel_rfl) | (refine q8 (sC1) ?_; simp only [go_sem, *]) | ((with_reducible apply And.intro); focus omega) | (refine z8 hK ?_; clear hK; simp only [go_sem, *]) | simp only [z6, z7, go_sem, *])
    all_goals try contradiction
    exact w7 (i' := i + 1) [some 0, some 1] [] (n + 1) (by rw [← hP]; simp; omega)
   | false =>
    rw [hd] at sC1 hP
    clear hd
    repeat' (first | (refine Qr rfl ?_; try intro _ hK; try simp only [go_sem, *]) | refine Qh rfl ?_ | refine Qd rfl (by kernel_rfl) ?_ | (refine Qc rfl rfl ?_ ?_ <;> (intro hb; have hc := hb; try simp only [go_sem] at hc)) | refine q6 rfl ?_ | (refine Qb ?_ ?_; focus kernel_rfl) | (refine q8 (sC1) ?_; simp only [go_sem, *]) | ((with_reducible apply And.intro); focus omega) | (refine z8 hK ?_; clear hK; simp only [go_sem, *]) | simp only [z6, z7, go_sem, *])
    all_goals try contradiction
    exact w7 (i' := i + 1) [some 0, some 1] [] (n) (by rw [← hP]; simp)
  ·have hi3 : ¬ (i : Int) < l.length := by omega
   rw [u9 (by omega)] at hP
   have hn : n = V := by simpa using hP
   subst hn
   clear sC hP
   unfold zNm
   by_cases c : n = 0
   ·have c1 : ((n : Int) == 0) = true := by simpa using c
    rw [if_pos c]
    clear c
    repeat' (first | (refine Qr rfl ?_; try intro _ hK; try simp only [go_sem, *]) | refine Qh rfl ?_ | refine Qd rfl (by kernel_rfl) ?_ | (refine Qc rfl rfl ?_ ?_ <;> (intro hb; have hc := hb; try simp only [go_sem] at hc)) | refine q6 rfl ?_ | (refine Qb ?_ ?_; focus kernel_rfl) | ((with_reducible apply And.intro); focus omega) | (refine z8 hK ?_; clear hK; simp only [go_sem, *]) | simp only [z6, z7, go_sem, *])
    all_goals try contradiction
    (refine ⟨[_, _], [], [], ⟨rfl, rfl, trivial⟩, ?_⟩; simp only [go_sem, *])
   ·have c1 : ((n : Int) == 0) = false := by rw [beq_eq_false_iff_ne]; omega
    rw [if_neg c]
    by_cases d : n = l.length
    ·have d1 : ((n : Int) == (l.length : Int)) = true := by rw [beq_iff_eq]; omega
     rw [if_pos d]
     clear c d
     repeat' (first | (refine Qr rfl ?_; try intro _ hK; try simp only [go_sem, *]) | refine Qh rfl ?_ | refine Qd rfl (by kernel_rfl) ?_ | (refine Qc rfl rfl ?_ ?_ <;> (intro hb; have hc := hb; try simp only [go_sem] at hc)) | refine q6 rfl ?_ | (refine Qb ?_ ?_; focus kernel_rfl) | ((with_reducible apply And.intro); focus omega) | (refine z8 hK ?_; clear hK; simp only [go_sem, *]) | simp only [z6, z7, go_sem, *])
     all_goals try contradiction
     (refine ⟨[_, _], [], [], ⟨rfl, rfl, trivial⟩, ?_⟩; simp only [go_sem, *])
    ·have d1 : ((n : Int) == (l.length : Int)) = false := by rw [beq_eq_false_iff_ne]; omega
     rw [if_neg d]
     clear c d
     repeat' (first | (refine Qr rfl ?_; try intro _ hK; try simp only [go_sem, *]) | refine Qh rfl ?_ | refine Qd rfl (by kernel_rfl) ?_ | (refine Qc rfl rfl ?_ ?_ <;> (intro hb; have hc := hb; try simp only [go_sem] at hc)) | refine q6 rfl ?_ | (refine Qb ?_ ?_; focus kernel_rfl) | ((with_reducible apply And.intro); focus omega) | (refine z8 hK ?_; clear hK; simp only [go_sem, *]) | simp only [z6, z7, go_sem, *])
     all_goals try contradiction
     (refine ⟨[_, _], [], [], ⟨rfl, rfl, trivial⟩, ?_⟩; simp only [go_sem, *])
 ·rw [if_neg he]
  by_cases hs : r9 s = 0
  ·have o := C5 hs
   have sa := zAv s hs
   have sc := zAr (y4 s.first) h (by have := o.first.count; omega)
   unfold M8 at he ⊢
   rw [if_pos hs] at he ⊢
   by_cases hh : h ∈ y4 s.first
   ·rw [if_pos hh] at he ⊢
    by_cases ht : r6 s = []
    ·rw [if_pos ht]
     rw [ht] at sa
     rw [decide_eq_true hh] at sc
     clear he hh ht hst hwl hfl hpl
     refine q9 func60 rfl (fun E hE => ?_); simp only [go_sem, ntmps60]
     repeat' (first | (refine Qr rfl ?_; try intro _ hK; try simp only [go_sem, *]) | refine Qh rfl ?_ | refine Qd rfl (by kernel_rfl) ?_ | (refine Qc rfl rfl ?_ ?_ <;> (intro hb; have hc := hb; try simp only [go_sem] at hc)) | refine q6 rfl ?_ | (refine Qb ?_ ?_; focus kernel_rfl) | (refine u2 (sa) ?_; simp only [go_sem, *]) | (refine q8 (sc) ?_; simp only [go_sem, *]) | ((with_reducible apply And.intro); focus omega) | (refine z8 hK ?_; clear hK; simp only [go_sem, *]) | simp only [z6, z7, go_sem, *])
     all_goals try contradiction
     (refine ⟨[_, _], [], [], ⟨rfl, rfl, trivial⟩, ?_⟩; simp only [go_sem, *])
    ·rw [if_neg ht] at he; exact absurd rfl he
   ·rw [if_neg hh]
    rw [decide_eq_false hh] at sc
    clear he hh hst hwl hfl hpl
    refine q9 func60 rfl (fun E hE => ?_); simp only [go_sem, ntmps60]
    repeat' (first | (refine Qr rfl ?_; try intro _ hK; try simp only [go_sem, *]) | refine Qh rfl ?_ | refine Qd rfl (by kernel_rfl) ?_ | (refine Qc rfl rfl ?_ ?_ <;> (intro hb; have hc := hb; try simp only [go_sem] at hc)) | refine q6 rfl ?_ | (refine Qb ?_ ?_; focus kernel_rfl) | (refine u2 (sa) ?_; simp only [go_sem, *]) | (refine q8 (sc) ?_; simp only [go_sem, *]) | ((with_reducible apply And.intro); focus omega) | (refine z8 hK ?_; clear hK; simp only [go_sem, *]) | simp only [z6, z7, go_sem, *])
    all_goals try contradiction
    (refine ⟨[_, _], [], [], ⟨rfl, rfl, trivial⟩, ?_⟩; simp only [go_sem, *])
  ·have sa := zLY s hst hwl hfl hpl hs
   unfold M8
   rw [if_neg hs]
   have e2 : (r9 s != 0) = true := by simpa using hs
   clear hs he hst hwl hfl hpl
   generalize r9 s = k at *
   refine q9 func60 rfl (fun E hE => ?_); simp only [go_sem, ntmps60]
   repeat' (first | (refine Qr rfl ?_; try intro _ hK; try simp only [go_sem, *]) | refine Qh rfl ?_ | refine Qd rfl (by kernel_rfl) ?_ | (refine Qc rfl rfl ?_ ?_ <;> (intro hb; have hc := hb; try simp only [go_sem] at hc)) | refine q6 rfl ?_ | (refine Qb ?_ ?_; focus kernel_rfl) | (refine q8 (sa) ?_; simp only [go_sem, *]) | ((with_reducible apply And.intro); focus omega) | (refine z8 hK ?_; clear hK; simp only [go_sem, *]) | simp only [z6, z7, go_sem, *])
   all_goals try contradiction
   (refine ⟨[_, _], [], [], ⟨rfl, rfl, trivial⟩, ?_⟩; simp only [go_sem, *])
end Go.Abs

namespace Go.Abs
open Go Go.Proofs Tryz
attribute [local irreducible] y6 Hold x7
theorem zPF {s : Story} (o : Told s) (hne : r6 s ≠ []) {h : House} (hh : h ∈ y4 s.first) : zLr prog 58 [s.enc, h.enc] [] (.tup [.list ((s7 (P2 s h)).map House.enc), iV 0]) [] := by
 have e := zPS o hh hne
 have hb := zNw o
 have q := zOG s h (by have := hb.steps; omega) (fun w hw => by have := hb.ways w hw; omega) (by have := hb.facts; omega) (by have := hb.first.len; omega)
 unfold zNR at q
 rw [e, if_pos rfl] at q
 exact q
end Go.Abs

namespace Go.Abs
open Go Go.Proofs Tryz
attribute [local irreducible] y6 Hold x7
theorem zQj {s : Story} (o : Told s) (hne : r6 s ≠ []) {h : House} (hh : h ∈ y4 s.first) (z : House) : zLr prog 60 [s.enc, h.enc, z.enc] [] (.tup [iV (zNm (zNJ s h z) (r6 s).length), iV 0]) [] := by
 have e := zPS o hh hne
 have hb := zNw o
 have q := zPE s h z (by have := hb.steps; omega) (fun w hw => by have := hb.ways w hw; omega) (by have := hb.facts; omega) (by have := hb.first.len; omega)
 unfold zNn at q
 rw [e, if_pos rfl] at q
 exact q
theorem zP9 (l : List Truth) (h : House) : zNA l h = decide ((s7 (l.flatMap fun t => t.now h)).length = 0) := by
 apply Bool.eq_iff_iff.2
 unfold zNA
 rw [List.all_eq_true, decide_eq_true_eq, List.length_eq_zero_iff]
 constructor
 ·intro k
  rw [List.eq_nil_iff_forall_not_mem]
  intro z hz
  obtain ⟨t, ht, hz⟩ := List.mem_flatMap.1 (mem_sortH.1 hz)
  have := k t ht
  rw [decide_eq_true_eq, List.length_eq_zero_iff] at this
  rw [this] at hz; cases hz
 ·intro k t ht
  rw [decide_eq_true_eq, List.length_eq_zero_iff, List.eq_nil_iff_forall_not_mem]
  intro z hz
  have : z ∈ s7 (l.flatMap fun t => t.now h) := mem_sortH.2 (List.mem_flatMap.2 ⟨t, ht, hz⟩)
  rw [k] at this; cases this
theorem zQA {s : Story} (o : Told s) (hne : r6 s ≠ []) : zNP s = 0 ∧ zNK s = (y4 s.first).filter (zNA (r6 s)) := by
 unfold zNP zNK
 rw [if_pos (zLl o), if_pos (zLl o), if_neg hne, if_neg hne]
 exact ⟨rfl, rfl⟩
theorem zRK {n all : Nat} (h : 0 < all) : zNm n all = if n = all then 1 else if n = 0 then 2 else 3 := by
 unfold zNm
 by_cases h1 : n = all
 ·rw [if_pos h1, if_neg (by omega), if_pos h1]
 ·rw [if_neg h1, if_neg h1]
theorem zRj (nums : List Int) (h : nums.length ≤ 4294967296) : zLr prog 17 [j5 nums] [] (bV true) [] := by
 have s1 := zLV nums
 have s2 := zLX (zCW nums) 4 3 2 1 h (by omega) (by omega) (by omega) (by omega)
 have sm := zLh (d := zCW nums) (houses := 4) (steps := 3) (ways := 2) (facts := 1) (by omega) (by omega) (by omega) (by omega)
 generalize R4 (zCW nums) 4 3 2 1 = S at *
 obtain ⟨s, d1⟩ := S
 simp only at s2 sm
 have o := sm.told
 have v := o.first
 have hct := v.count
 have h3 := o.steps
 have hl := H2 o.steps (fun w hw => (o.ways w hw).2.1)
 have sH := zHW s.first (by have := v.len; omega) (fun l hl => by have := (v.rows l hl).len; omega) (by omega)
 have sT := zHb s (zLl o)
 have hww : (C7 s).map j5 = (r6 s).map fun t => j5 t.ways := by unfold C7; rw [List.map_map]; rfl
 rw [hww] at sT
 have hb := zNw o
 have sLo := zPA s (by have := hb.steps; omega) (fun w hw => by have := hb.ways w hw; omega) (by have := hb.facts; omega) (by have := hb.first.len; omega)
 have h30 : ¬ (((r6 s).length : Nat) : Int) > 30 := by omega
 have sw := zLe
 by_cases hne : r6 s = []
 ·have e1 : zNP s = 11 := by unfold zNP; rw [if_pos (zLl o), if_pos hne]
  have e2 : zNK s = [] := by unfold zNK; rw [if_pos (zLl o), if_pos hne]
  rw [hne] at sT
  rw [e1, e2] at sLo
  clear hne h30 hww e1 e2
  refine q9 func17 rfl (fun E hE => ?_); simp only [go_sem, ntmps17]
  repeat' (first | (refine Qr rfl ?_; try intro _ hK; try simp only [go_sem, *]) | (refine Qi rfl rfl rfl rfl ?_ ?_ <;> (intro hb; (try intro _ hK); have hc := hb; try simp only [go_sem] at hc; simp only [go_sem, *])) | refine Qh rfl ?_ | refine Qd rfl (by kernel_rfl) ?_ | (refine Qc rfl rfl ?_ ?_ <;> (intro hb; have hc := hb; try simp only [go_sem] at hc)) | refine q6 rfl ?_ | (refine Qb ?_ ?_; focus kernel_rfl) | ((first | refine q8 (sT) ?_ | refine q8 (sLo) ?_ | refine q8 (sw) ?_); simp only [go_sem, *]) | (refine u2 (s1) ?_; simp only [go_sem, *]) | (refine Q4 [0] (s2) ?_; simp only [go_sem, *]) | (refine u2 (sH) ?_; simp only [go_sem, *]) | ((with_reducible apply And.intro); focus omega) | (refine z8 hK ?_; clear hK; simp only [go_sem, *]) | simp only [z6, z7, go_sem, *])
  all_goals try contradiction
  (refine ⟨[_], [], [], ⟨rfl, trivial⟩, ?_⟩; simp only [go_sem, *])
 have hlp := List.length_pos_iff.2 hne
 have hl0 : (((r6 s).length : Int) == 0) = false := by rw [beq_eq_false_iff_ne]; omega
 obtain ⟨e1, e2⟩ := zQA o hne
 rw [e1, e2] at sLo
 have sA := fun h hh => zPF o hne (h := h) hh
 have sV := fun h hh z => zQj o hne (h := h) hh z
 have wl : ∀ h, h ∈ y4 s.first → (P2 s h).length ≤ 32 := fun h hh => zPT sm hh
 have hwy : ∀ t, t ∈ r6 s → zRy s t.ways := fun t ht => zOQ (zNl ht).1
 have sF := fun t (ht : t ∈ r6 s) h (hh : h ∈ y4 s.first) => zOI s o t.ways (hwy t ht) h hh t (zNl ht).2
 have sL := fun t (ht : t ∈ r6 s) => zOJ s t.ways (hwy t ht) (by omega)
 have hsm : ∀ t, t ∈ r6 s → ∀ x, x ∈ y4 s.first → (t.now x).length ≤ 8 := fun t hm x hx => (zDW v t hm).small h3 hx
 have hN0 : ∀ h z, 0 + ((r6 s).drop 0).countP (fun t => decide (z ∈ t.now h)) = zNJ s h z := fun h z => by rw [Nat.zero_add]; rfl
 have hNl : ∀ h z, zNJ s h z ≤ (r6 s).length := fun h z => zRJ s h z
 have hNm : ∀ h z, zNJ s h z = 0 ↔ z ∉ P2 s h := fun h z => zRL
 have hlo : ∀ h, zNA (r6 s) h = decide ((s7 (P2 s h)).length = 0) := fun h => zP9 _ h
 have hG : 0 + ((y4 s.first).drop 0).countP (zNA (r6 s)) = ((y4 s.first).filter (zNA (r6 s))).length := by
  rw [Nat.zero_add, List.drop_zero, ← List.countP_eq_length_filter]
 have hLl := List.length_filter_le (zNA (r6 s)) (y4 s.first)
 have hLm : ∀ h, h ∈ y4 s.first → decide (h ∈ (y4 s.first).filter (zNA (r6 s))) = zNA (r6 s) h := fun h hh => by
  apply Bool.eq_iff_iff.2
  rw [decide_eq_true_eq, List.mem_filter]
  exact ⟨fun k => k.2, fun k => ⟨hh, k⟩⟩
 clear sm h hne hww hwy o v hb e1 e2
 generalize (y4 s.first).filter (zNA (r6 s)) = LO at *
 generalize zNA (r6 s) = LH at *
 generalize zNJ s = VN at *
 generalize P2 s = WL at *
 generalize r6 s = L at *
 generalize y4 s.first = H at *
 refine q9 func17 rfl (fun E hE => ?_); simp only [go_sem, ntmps17]
 repeat' (first | (refine Qr rfl ?_; try intro _ hK; try simp only [go_sem, *]) | (refine Qi rfl rfl rfl rfl ?_ ?_ <;> (intro hb; (try intro _ hK); have hc := hb; try simp only [go_sem] at hc; simp only [go_sem, *])) | refine Qh rfl ?_ | refine Qd rfl (by kernel_rfl) ?_ | (refine Qc rfl rfl ?_ ?_ <;> (intro hb; have hc := hb; try simp only [go_sem] at hc)) | refine q6 rfl ?_ | (refine Qb ?_ ?_; focus kernel_rfl) | ((first | refine q8 (sT) ?_ | refine q8 (sLo) ?_); simp only [go_sem, *]) | (refine u2 (s1) ?_; simp only [go_sem, *]) | (refine Q4 [0] (s2) ?_; simp only [go_sem, *]) | (refine u2 (sH) ?_; simp only [go_sem, *]) | ((with_reducible apply And.intro); focus omega) | (refine z8 hK ?_; clear hK; simp only [go_sem, *]) | simp only [z6, z7, go_sem, *])
 all_goals try contradiction
 clear s1 s2 sH sT sLo hl0 h30
 refine u5 rfl (H.length) (fun i (g : Nat) => g + (H.drop i).countP LH = LO.length) 194 (fun i g => [(10, iV i), (9, iV g), (8, iV 0), (7, Q6 LO), (5, .list (L.map fun t => j5 t.ways)), (4, Q6 H), (3, .ptr 0 0)]) (fun i g => [zRs s]) [some 1] [2] (0) (by exact hG) ?_; intro i g hi hP
 clear hG
 by_cases hi : i < H.length
 ·have hi3 : (i : Int) < H.length := by omega
  have hm := w9 hi
  rw [zEG hi] at hP
  have sA1 := sA _ hm
  have sV1 := sV _ hm
  have wl1 := wl _ hm
  have sF1 := fun t ht => sF t ht _ hm
  have hs1 := fun t ht => hsm t ht _ hm
  have lo1 := hlo (H.getD i default)
  have lm1 := hLm _ hm
  have N01 := hN0 (H.getD i default)
  have Nl1 := hNl (H.getD i default)
  have Nm1 := hNm (H.getD i default)
  have mem : ∀ z, z ∈ s7 (WL (H.getD i default)) ↔ z ∈ WL (H.getD i default) := fun z => mem_sortH
  have wl2 := zNj (WL (H.getD i default))
  have sP := zNt LO (H.getD i default) (by omega)
  rw [lm1] at sP
  clear sA sV wl sF hsm hlo hLm hN0 hNl hNm lm1
  generalize hd : H.getD i default = hh at *
  generalize hSW : s7 (WL hh) = SW at *
  generalize WL hh = W1 at *
  generalize VN hh = V1 at *
  have h60 : ¬ ((SW.length : Nat) : Int) > 60 := by omega
  obtain ⟨P, hP1⟩ : ∃ P : List House, P = SW ++ H := ⟨_, rfl⟩
  have hPl : P.length = SW.length + H.length := by rw [hP1]; simp
  have ht : List.take (SW.length + H.length) (List.map House.enc SW ++ List.map House.enc H) = List.map House.enc P := by rw [hP1, List.map_append]; exact List.take_of_length_le (by simp)
  obtain ⟨g2, hg2⟩ : ∃ g2, g2 = if LH hh = true then g + 1 else g := ⟨_, rfl⟩
  have hg3 : g2 + (H.drop (i + 1)).countP LH = LO.length := by
   rw [hg2, ← hP]
   split <;> omega
  have hgl : g2 ≤ 1000 := by omega
  have hwg : IntKind.i64.wrap (g2 : Int) = g2 := wrap_i64 (by omega) (by omega)
  have hPl2 : P.length ≤ 1000 := by omega
  clear hP
  cases hL : LH hh
  case' false =>
   have z2 : ((SW.length : Int) == 0) = false := by
    rw [lo1, decide_eq_false_iff_not] at hL
    rw [beq_eq_false_iff_ne]; omega
   have e9 : (g : Int) = g2 := by rw [hg2, if_neg (by rw [hL]; simp)]
   rw [hL] at sP
   clear lo1 hL hg2
   repeat' (first | (refine Qr rfl ?_; try intro _ hK; try simp only [go_sem, *]) | (refine Qi rfl rfl rfl rfl ?_ ?_ <;> (intro hb; (try intro _ hK); have hc := hb; try simp only [go_sem] at hc; simp only [go_sem, *])) | refine Qh rfl ?_ | refine Qd rfl (by kernel_rfl) ?_ | (refine Qc rfl rfl ?_ ?_ <;> (intro hb; have hc := hb; try simp only [go_sem] at hc)) | refine q6 rfl ?_ | (with_reducible (show (∀ _ : AV, _ → _) ∧ _); refine And.intro ?_ ?_; (focus (intro y hy; first | (obtain ⟨z, _, rfl⟩ := List.mem_map.1 (hy); simp [go_sem]; done) | (obtain ⟨z, _, rfl⟩ := List.mem_map.1 (List.mem_of_mem_take hy); simp [go_sem]; done) | (obtain ⟨z, _, rfl⟩ := List.mem_map.1 (List.mem_of_mem_drop hy); simp [go_sem]; done) | (obtain ⟨z, _, rfl⟩ := List.mem_map.1 (List.mem_of_mem_drop (List.mem_of_mem_take hy)); simp [go_sem]; done)))) | (refine Qb ?_ ?_; focus kernel_rfl) | ((first | refine q8 (sA1) ?_ | refine q8 (sP) ?_); simp only [go_sem, *]) | ((with_reducible apply And.intro); focus omega) | (refine z8 hK ?_; clear hK; simp only [go_sem, *]) | simp only [z6, z7, go_sem, *])
   all_goals try contradiction
   clear e9 z2 sP sA1
  case' true =>
   have z1 : SW.length = 0 := by rw [lo1] at hL; simpa using hL
   have z2 : ((SW.length : Int) == 0) = true := by rw [z1]; rfl
   have e9 : (g : Int) + 1 = g2 := by rw [hg2, if_pos hL]; simp
   rw [hL] at sP
   clear lo1 hL hg2 z1
   repeat' (first | (refine Qr rfl ?_; try intro _ hK; try simp only [go_sem, *]) | (refine Qi rfl rfl rfl rfl ?_ ?_ <;> (intro hb; (try intro _ hK); have hc := hb; try simp only [go_sem] at hc; simp only [go_sem, *])) | refine Qh rfl ?_ | refine Qd rfl (by kernel_rfl) ?_ | (refine Qc rfl rfl ?_ ?_ <;> (intro hb; have hc := hb; try simp only [go_sem] at hc)) | refine q6 rfl ?_ | (with_reducible (show (∀ _ : AV, _ → _) ∧ _); refine And.intro ?_ ?_; (focus (intro y hy; first | (obtain ⟨z, _, rfl⟩ := List.mem_map.1 (hy); simp [go_sem]; done) | (obtain ⟨z, _, rfl⟩ := List.mem_map.1 (List.mem_of_mem_take hy); simp [go_sem]; done) | (obtain ⟨z, _, rfl⟩ := List.mem_map.1 (List.mem_of_mem_drop hy); simp [go_sem]; done) | (obtain ⟨z, _, rfl⟩ := List.mem_map.1 (List.mem_of_mem_drop (List.mem_of_mem_take hy)); simp [go_sem]; done)))) | (refine Qb ?_ ?_; focus kernel_rfl) | ((first | refine q8 (sA1) ?_ | refine q8 (sP) ?_); simp only [go_sem, *]) | ((with_reducible apply And.intro); focus omega) | (refine z8 hK ?_; clear hK; simp only [go_sem, *]) | simp only [z6, z7, go_sem, *])
   all_goals try contradiction
   clear e9 z2 sP sA1
  all_goals
   refine u4 rfl (P.length) (fun k => NoP k) 194 (fun k => [(14, iV k), (13, Q6 P), (12, iV 0), (11, Q6 SW), (10, iV i), (9, iV g2), (8, iV 0), (7, Q6 LO), (5, .list (L.map fun t => j5 t.ways)), (4, Q6 H), (3, .ptr 0 0)]) (fun k => [zRs s]) [some 0] [3] (by trivial) ?_; intro k hk hQ
   clear ht hPl hP1
   by_cases hk : k < P.length
   ·have hk3 : (k : Int) < P.length := by omega
    have sV2 := sV1 (P.getD k default)
    have N02 := N01 (P.getD k default)
    have Nl2 := Nl1 (P.getD k default)
    have Nm2 := Nm1 (P.getD k default)
    have sQ := zNt SW (P.getD k default) (by omega)
    have mm := mem (P.getD k default)
    have sC := fun t (ht : t ∈ L) => zNt (t.now hh) (P.getD k default) (by have := hs1 t ht; omega)
    clear sV1 N01 Nl1 Nm1 mem
    generalize hzd : P.getD k default = z at *
    generalize V1 z = V at *
    repeat' (first | (refine Qr rfl ?_; try intro _ hK; try simp only [go_sem, *]) | (refine Qi rfl rfl rfl rfl ?_ ?_ <;> (intro hb; (try intro _ hK); have hc := hb; try simp only [go_sem] at hc; simp only [go_sem, *])) | refine Qh rfl ?_ | refine Qd rfl (by kernel_rfl) ?_ | (refine Qc rfl rfl ?_ ?_ <;> (intro hb; have hc := hb; try simp only [go_sem] at hc)) | refine q6 rfl ?_ | (refine Qb ?_ ?_; focus kernel_rfl) | ((with_reducible apply And.intro); focus omega) | (refine z8 hK ?_; clear hK; simp only [go_sem, *]) | simp only [z6, z7, go_sem, *])
    all_goals try contradiction
    refine u5 rfl (L.length) (fun t (n : Nat) => n + (L.drop t).countP (fun t => decide (z ∈ t.now hh)) = V) 194 (fun t n => [(16, iV t), (15, iV n), (14, iV k), (13, Q6 P), (12, iV 0), (11, Q6 SW), (10, iV i), (9, iV g2), (8, iV 0), (7, Q6 LO), (5, .list (L.map fun t => j5 t.ways)), (4, Q6 H), (3, .ptr 0 0)]) (fun t n => [zRs s]) [some 0] [] (0) (by exact N02) ?_; intro t n ht hR
    clear N02
    by_cases htt : t < L.length
    ·have ht3 : (t : Int) < L.length := by omega
     have hmt := w9 htt
     rw [zEG htt] at hR
     have sL1 := sL _ hmt
     have sF2 := sF1 _ hmt
     have sC1 := sC _ hmt
     clear sL sF1 sC sV2 sQ mm Nm2 hs1
     cases hd2 : decide (z ∈ (L.getD t default).now hh)
     ·rw [hd2] at sC1 hR
      clear hd2
      repeat' (first | (refine Qr rfl ?_; try intro _ hK; try simp only [go_sem, *]) | (refine Qi rfl rfl rfl rfl ?_ ?_ <;> (intro hb; (try intro _ hK); have hc := hb; try simp only [go_sem] at hc; simp only [go_sem, *])) | refine Qh rfl ?_ | refine Qd rfl (by kernel_rfl) ?_ | (refine Qc rfl rfl ?_ ?_ <;> (intro hb; have hc := hb; try simp only [go_sem] at hc)) | refine q6 rfl ?_ | (refine Qb ?_ ?_; focus kernel_rfl) | ((first | refine q8 (sL1) ?_ | refine q8 (sF2) ?_ | refine q8 (sC1) ?_); simp only [go_sem, *]) | ((with_reducible apply And.intro); focus omega) | (refine z8 hK ?_; clear hK; simp only [go_sem, *]) | simp only [z6, z7, go_sem, *])
      all_goals try contradiction
      exact w7 (i' := t + 1) [some 0] [] (n) (by rw [← hR]; simp)
     ·rw [hd2] at sC1 hR
      clear hd2
      repeat' (first | (refine Qr rfl ?_; try intro _ hK; try simp only [go_sem, *]) | (refine Qi rfl rfl rfl rfl ?_ ?_ <;> (intro hb; (try intro _ hK); have hc := hb; try simp only [go_sem] at hc; simp only [go_sem, *])) | refine Qh rfl ?_ | refine Qd rfl (by kernel_rfl) ?_ | (refine Qc rfl rfl ?_ ?_ <;> (intro hb; have hc := hb; try simp only [go_sem] at hc)) | refine q6 rfl ?_ | (refine Qb ?_ ?_; focus kernel_rfl) | ((first | refine q8 (sL1) ?_ | refine q8 (sF2) ?_ | refine q8 (sC1) ?_); simp only [go_sem, *]) | ((with_reducible apply And.intro); focus omega) | (refine z8 hK ?_; clear hK; simp only [go_sem, *]) | simp only [z6, z7, go_sem, *])
      all_goals try contradiction
      exact w7 (i' := t + 1) [some 0] [] (n + 1) (by rw [← hR]; simp; omega)
    ·have ht3 : ¬ (t : Int) < L.length := by omega
     rw [u9 (by omega)] at hR
     have hn : n = V := by simpa using hR
     subst hn
     rw [zRK hlp] at sV2
     clear sL sF1 sC hR hs1
     by_cases c : n = L.length
     ·have c1 : ((n : Int) == (L.length : Int)) = true := by rw [beq_iff_eq]; omega
      have c2 : z ∈ SW := mm.2 (Decidable.of_not_not (fun h => by have := Nm2.2 h; omega))
      rw [decide_eq_true c2] at sQ
      rw [if_pos c] at sV2
      clear c c2 mm Nm2
      repeat' (first | (refine Qr rfl ?_; try intro _ hK; try simp only [go_sem, *]) | (refine Qi rfl rfl rfl rfl ?_ ?_ <;> (intro hb; (try intro _ hK); have hc := hb; try simp only [go_sem] at hc; simp only [go_sem, *])) | refine Qh rfl ?_ | refine Qd rfl (by kernel_rfl) ?_ | (refine Qc rfl rfl ?_ ?_ <;> (intro hb; have hc := hb; try simp only [go_sem] at hc)) | refine q6 rfl ?_ | (refine Qb ?_ ?_; focus kernel_rfl) | ((first | refine q8 (sV2) ?_ | refine q8 (sQ) ?_); simp only [go_sem, *]) | ((with_reducible apply And.intro); focus omega) | (refine z8 hK ?_; clear hK; simp only [go_sem, *]) | simp only [z6, z7, go_sem, *])
      all_goals try contradiction
      exact u3 (i' := k + 1) [some 0] [] (by trivial)
     ·have c1 : ((n : Int) == (L.length : Int)) = false := by rw [beq_eq_false_iff_ne]; omega
      rw [if_neg c] at sV2
      by_cases d : n = 0
      ·have d1 : ((n : Int) == 0) = true := by rw [d]; rfl
       have c2 : ¬ z ∈ SW := fun h => Nm2.1 d (mm.1 h)
       rw [decide_eq_false c2] at sQ
       rw [if_pos d] at sV2
       clear c d c2 mm Nm2
       repeat' (first | (refine Qr rfl ?_; try intro _ hK; try simp only [go_sem, *]) | (refine Qi rfl rfl rfl rfl ?_ ?_ <;> (intro hb; (try intro _ hK); have hc := hb; try simp only [go_sem] at hc; simp only [go_sem, *])) | refine Qh rfl ?_ | refine Qd rfl (by kernel_rfl) ?_ | (refine Qc rfl rfl ?_ ?_ <;> (intro hb; have hc := hb; try simp only [go_sem] at hc)) | refine q6 rfl ?_ | (refine Qb ?_ ?_; focus kernel_rfl) | ((first | refine q8 (sV2) ?_ | refine q8 (sQ) ?_); simp only [go_sem, *]) | ((with_reducible apply And.intro); focus omega) | (refine z8 hK ?_; clear hK; simp only [go_sem, *]) | simp only [z6, z7, go_sem, *])
       all_goals try contradiction
       exact u3 (i' := k + 1) [some 0] [] (by trivial)
      ·have d1 : ((n : Int) == 0) = false := by rw [beq_eq_false_iff_ne]; omega
       have c2 : z ∈ SW := mm.2 (Decidable.of_not_not (fun h => d (Nm2.2 h)))
       rw [decide_eq_true c2] at sQ
       rw [if_neg d] at sV2
       clear c d c2 mm Nm2
       repeat' (first | (refine Qr rfl ?_; try intro _ hK; try simp only [go_sem, *]) | (refine Qi rfl rfl rfl rfl ?_ ?_ <;> (intro hb; (try intro _ hK); have hc := hb; try simp only [go_sem] at hc; simp only [go_sem, *])) | refine Qh rfl ?_ | refine Qd rfl (by kernel_rfl) ?_ | (refine Qc rfl rfl ?_ ?_ <;> (intro hb; have hc := hb; try simp only [go_sem] at hc)) | refine q6 rfl ?_ | (refine Qb ?_ ?_; focus kernel_rfl) | ((first | refine q8 (sV2) ?_ | refine q8 (sQ) ?_); simp only [go_sem, *]) | ((with_reducible apply And.intro); focus omega) | (refine z8 hK ?_; clear hK; simp only [go_sem, *]) | simp only [z6, z7, go_sem, *])
       all_goals try contradiction
       exact u3 (i' := k + 1) [some 0] [] (by trivial)
   ·have hk3 : ¬ (k : Int) < P.length := by omega
    clear sV1 N01 Nl1 Nm1 mem sL sF1 hs1
    repeat' (first | (refine Qr rfl ?_; try intro _ hK; try simp only [go_sem, *]) | (refine Qi rfl rfl rfl rfl ?_ ?_ <;> (intro hb; (try intro _ hK); have hc := hb; try simp only [go_sem] at hc; simp only [go_sem, *])) | refine Qh rfl ?_ | refine Qd rfl (by kernel_rfl) ?_ | (refine Qc rfl rfl ?_ ?_ <;> (intro hb; have hc := hb; try simp only [go_sem] at hc)) | refine q6 rfl ?_ | (refine Qb ?_ ?_; focus kernel_rfl) | ((with_reducible apply And.intro); focus omega) | (refine z8 hK ?_; clear hK; simp only [go_sem, *]) | simp only [z6, z7, go_sem, *])
    all_goals try contradiction
    exact w7 (i' := i + 1) [some 0] [] (g2) (by exact hg3)
 ·have hi3 : ¬ (i : Int) < H.length := by omega
  rw [u9 (by omega)] at hP
  have hg : g = LO.length := by simpa using hP
  have hg2 : ((g : Int) == (LO.length : Int)) = true := by rw [hg]; simp
  clear sA sV wl sF sL hsm hlo hLm hN0 hNl hNm hP hg
  repeat' (first | (refine Qr rfl ?_; try intro _ hK; try simp only [go_sem, *]) | (refine Qi rfl rfl rfl rfl ?_ ?_ <;> (intro hb; (try intro _ hK); have hc := hb; try simp only [go_sem] at hc; simp only [go_sem, *])) | refine Qh rfl ?_ | refine Qd rfl (by kernel_rfl) ?_ | (refine Qc rfl rfl ?_ ?_ <;> (intro hb; have hc := hb; try simp only [go_sem] at hc)) | refine q6 rfl ?_ | (refine Qb ?_ ?_; focus kernel_rfl) | (refine q8 (sw) ?_; simp only [go_sem, *]) | ((with_reducible apply And.intro); focus omega) | (refine z8 hK ?_; clear hK; simp only [go_sem, *]) | simp only [z6, z7, go_sem, *])
  all_goals try contradiction
  (refine ⟨[_], [], [], ⟨rfl, trivial⟩, ?_⟩; simp only [go_sem, *])
end Go.Abs

