/-
  WHAT THE PROOF STANDS ON, PART 5: contracts of the program's functions and the logic that they are proved in. No condition.
-/
import Derived.Shelf.SlLaysF0
import Derived.Test.YtmhleaopjcfjnaaGreatProg
import Derived.Shelf.SlSortCmp.NoneTotal
import Derived.Scope
import Derived.Test.YtmhleaopjcfjnaaGreatQ4
set_option maxRecDepth 100000
set_option maxHeartbeats 4000000
set_option linter.unusedVariables false
set_option linter.unusedSimpArgs false
set_option linter.unusedSectionVars false
namespace Go.Abs
open Go Go.Proofs Tryz
attribute [local irreducible] y6 Hold x8
end Go.Abs

namespace Go.Abs
open Go
def zSG (p : zLo) (l : List Change) : List Change := l.filter fun c => decide (can p c = 0)
def zPt (kind : Int) (p : zLo) (s : Nat) : List Change := (List.range' s (p.length - s)).flatMap fun s => zSG p (B8 kind p s)
def chK : Nat → zLo → List Change
 | 0, _ => []
 | m + 1, p => zPt (6 - (m : Nat)) p 0 ++ chK m p
def g1 (q : zLo) (p : zLo) (c : Change) : Option (List Change) := (r7 0 (s9 p c) q).map (c :: ·)
def g2 (q : zLo) (p : zLo) (c : Change) : Option (List Change) := (r7 1 (s9 p c) q).map (c :: ·)
end Go.Abs

namespace Go.Abs
open Go
def suf (s : Story) : Nat → Nat → List (List Int)
 | 0, _ => [[]]
 | n + 1, k => (List.range' 0 (w9 s k).length).flatMap fun (i : Nat) => (suf s n (k + 1)).map fun r => (i : Int) :: r
def zRx (s : Story) (n k i : Nat) : List (List Int) := (List.range' i ((w9 s k).length - i)).flatMap fun (i : Nat) => (suf s n (k + 1)).map fun r => (i : Int) :: r
def zR5 (s : Story) (t : Truth) (i : Int) : Change := (w9 s t.ways.length).getD i.toNat default
def zR2 (s : Story) : List Int → Truth → Option Truth
 | [], t => some t
 | i :: r, t => if can t.fin (zR5 s t i) = 0 then zR2 s r (n0 t (zR5 s t i) i.toNat) else none
def zRm (s : Story) (w : List Int) : Bool := match zR2 s w (Y8 s) with
 | some t => f7 s.facts t
 | none => false
def zOe (s : Story) : List (List Int) := suf s s.steps.length 0
end Go.Abs

namespace Go.Abs
open Go
def zNB (xs : List House) : Nat → List House
 | 0 => []
 | p + 1 => if 0 < p ∧ xs.getD p default = xs.getD (p - 1) default then zNB xs p else zNB xs p ++ [xs.getD p default]
theorem zN7 {xs : List House} {p : Nat} (h : 0 < p) (e : xs.getD p default = xs.getD (p - 1) default) : zNB xs (p + 1) = zNB xs p := by rw [zNB, if_pos ⟨h, e⟩]
theorem zOg {xs : List House} {p : Nat} (e : ¬ xs.getD p default = xs.getD (p - 1) default) : zNB xs (p + 1) = zNB xs p ++ [xs.getD p default] := by rw [zNB, if_neg (fun h => e h.2)]
theorem zOf (xs : List House) : ∀ p, (zNB xs p).length ≤ p
 | 0 => Nat.le_refl _
 | p + 1 => by
  have := zOf xs p
  rw [zNB]
  split
  ·omega
  ·simp; omega
def zNo (xs : List House) (p : Nat) : Prop := ∀ j, 0 < j → j < p → ¬ xs.getD j default = xs.getD (j - 1) default
theorem zN6 {xs : List House} : ∀ {p : Nat}, p ≤ xs.length → zNo xs p → zNB xs p = xs.take p
 | 0, _, _ => rfl
 | p + 1, hp, h => by
  have ih := zN6 (p := p) (by omega) (fun j h0 hj => h j h0 (by omega))
  rw [zDR (by omega), ← ih, zNB]
  rw [if_neg (fun hh => h p hh.1 (by omega) hh.2)]
theorem zOh {xs : List House} (hs : xs.Pairwise fun a b => ¬ b.lt a = true) : ∀ p, p ≤ xs.length → Strict (zNB xs p) ∧ ∀ z, z ∈ zNB xs p ↔ z ∈ xs.take p
 | 0, _ => ⟨List.Pairwise.nil, fun z => by simp [zNB]⟩
 | p + 1, hp => by
  obtain ⟨h1, h2⟩ := zOh hs p (by omega)
  have hle : ∀ i j, i < j → j < xs.length → ¬ (xs.getD j default).lt (xs.getD i default) = true := fun i j hij hj => by
   have := List.pairwise_iff_getElem.1 hs i j (by omega) hj hij
   simpa [List.getD, hj, show i < xs.length by omega] using this
  rw [zDR (by omega), zNB]
  by_cases c : 0 < p ∧ xs.getD p default = xs.getD (p - 1) default
  ·rw [if_pos c]
   refine ⟨h1, fun z => ?_⟩
   rw [h2, List.mem_append, List.mem_singleton]
   constructor
   ·exact .inl
   ·rintro (h | rfl)
    ·exact h
    ·rw [c.2]
     exact List.mem_take_iff_getElem.2 ⟨p - 1, by omega, by simp [List.getD, show p - 1 < xs.length by omega]⟩
  ·rw [if_neg c]
   refine ⟨?_, fun z => by rw [List.mem_append, List.mem_append, h2]⟩
   refine List.pairwise_append.2 ⟨h1, List.pairwise_singleton _ _, fun a ha b hb => ?_⟩
   rw [List.mem_singleton.1 hb]
   rw [h2] at ha
   obtain ⟨i, hi, rfl⟩ := List.mem_take_iff_getElem.1 ha
   have hi' : i < p := by omega
   have hiL : i < xs.length := by omega
   have e1 : xs[i] = xs.getD i default := by simp [List.getD, hiL]
   rw [e1]
   -- the neighbour ahead is not greater than the new one, and not it
   have g1 := hle (p - 1) p (by omega) (by omega)
   have g2 : ¬ xs.getD p default = xs.getD (p - 1) default := fun e => c ⟨by omega, e⟩
   have g3 : (xs.getD (p - 1) default).lt (xs.getD p default) = true := by
    rcases House.lt_tri (xs.getD (p - 1) default) (xs.getD p default) with h | h | h
    ·exact h
    ·exact absurd h.symm g2
    ·exact absurd h g1
   by_cases e : i = p - 1
   ·rw [e]; exact g3
   ·have g4 := hle i (p - 1) (by omega) (by omega)
    rcases House.lt_tri (xs.getD i default) (xs.getD (p - 1) default) with h | h | h
    ·exact House.lt_trans h g3
    ·rw [h]; exact g3
    ·exact absurd h g4
end Go.Abs

namespace Go.Abs
open Go
theorem zNs {α β : Type} (f : α → List β) (k : Nat) : ∀ (l : List α), (∀ x, x ∈ l → (f x).length ≤ k) → (l.flatMap f).length ≤ l.length * k
 | [], _ => Nat.zero_le _
 | x :: r, h => by
  have h1 := h x (by simp)
  have h2 := zNs f k r (fun y hy => h y (by simp [hy]))
  rw [List.flatMap_cons, List.length_append, List.length_cons, Nat.add_mul]
  omega
def zNQ (s : Story) (h : House) : List House := if M6 s h = 0 then zA0 s h else []
def zNF (s : Story) (h : House) : List House := (r5 s).flatMap fun t => (q9 s.first).filter fun x => decide (h ∈ t.now x)
def zNc (s : Story) (h : House) : Int := if r9 s = 0 then if r5 s = [] then 11 else if zNF s h = [] then 3 else 0 else r9 s
def zNP (s : Story) (h : House) : List House := if r9 s = 0 then if r5 s = [] then [] else s6 (zNF s h) else []
def zNE (s : Story) (h to : House) : Nat := (r5 s).countP fun t => decide (to ∈ t.now h)
def zNO (n all : Nat) : Int := if n = 0 then 2 else if n = all then 1 else 3
def zNn (s : Story) (h to : House) : Int := if M6 s h = 0 then zNO (zNE s h to) (r5 s).length else 0
theorem zOV {s : Story} {h : House} (he : M6 s h = 0) : r9 s = 0 ∧ h ∈ q9 s.first ∧ r5 s ≠ [] := by
 unfold M6 at he
 by_cases h1 : r9 s = 0
 ·rw [if_pos h1] at he
  by_cases h2 : h ∈ q9 s.first
  ·rw [if_pos h2] at he
   refine ⟨h1, h2, fun e => ?_⟩
   rw [if_pos e] at he; omega
  ·rw [if_neg h2] at he; omega
 ·rw [if_neg h1] at he; exact absurd he h1
end Go.Abs

namespace Go.Abs
open Go
theorem zQJ (p : zLo) (c : Change) (x : House) (hx : x ≠ ⟨c.street, c.src⟩) : (mv p c x).length ≤ 1 := by
 unfold mv
 split
 ·rename_i hs
  have hp : ¬ x.plate = c.src := fun e => hx (by cases x; simp only at hs e; rw [hs, e])
  unfold toP
  simp only [if_neg hp]
  repeat' split
  all_goals simp
 ·simp
def Few (s : Story) (t : Truth) : Prop := ∀ h, h ∈ q9 s.first → (t.now h).length ≤ 1 + t.ways.length
theorem zP0 {s : Story} {n : Nat} {t : Truth} (o : TOk s (n + 1) t) (k : Few s t) (c : Change) (i : Nat) : Few s (n0 t c i) := fun h hh => by
 show (s6 ((t.now h).flatMap (mv t.fin c))).length ≤ _
 have h1 := N2 (R3 ((t.now h).flatMap (mv t.fin c))).nodup (b := (t.now h).flatMap (mv t.fin c)) (fun x hx => mem_sortH.1 hx)
 have h2 := (zBj (f := mv t.fin c) (⟨c.street, c.src⟩ : House) (o.strict h hh).nodup (fun x _ hx => zQJ _ _ x hx) (fun _ => zGO _ _ _)).1
 have h3 := k h hh
 have : (n0 t c i).ways.length = t.ways.length + 1 := by simp [n0]
 omega
theorem zOm {s : Story} : ∀ (n : Nat) {t : Truth}, TOk s n t → Few s t → ∀ x, x ∈ p7 s n t → Few s x
 | 0, t, o, k, x, hx => by
  rw [G8] at hx
  split at hx
  ·rw [List.mem_singleton.1 hx]; exact k
  ·simp at hx
 | n + 1, t, o, k, x, hx => by
  rw [p7] at hx
  obtain ⟨i, _, hx⟩ := List.mem_flatMap.1 hx
  split at hx
  ·rename_i hc
   exact zOm n (o.next hc i) (zP0 o k _ i) x hx
  ·simp at hx
theorem zOn {s : Story} {m : Nat} (hw : ∀ w, w ∈ s.steps → w.length ≤ m) : ∀ (n : Nat) (t : Truth), (p7 s n t).length ≤ m ^ n
 | 0, t => by
  rw [G8]
  split <;> simp
 | n + 1, t => by
  rw [p7]
  have hl : (w9 s t.ways.length).length ≤ m := by
   unfold w9
   by_cases h : t.ways.length < s.steps.length
   ·exact hw _ (w8 h)
   ·have e : s.steps[t.ways.length]? = none := List.getElem?_eq_none (by omega)
    simp only [List.getD, e, Option.getD_none]; show ([] : List Change).length ≤ m; simp
  have h1 := zNs (fun i => if can t.fin ((w9 s t.ways.length).getD i default) = 0 then p7 s n (n0 t ((w9 s t.ways.length).getD i default) i) else []) (m ^ n) (List.range' 0 (w9 s t.ways.length).length) (fun i _ => by
   split
   ·exact zOn hw n _
   ·simp)
  refine Nat.le_trans h1 ?_
  rw [List.length_range', Nat.pow_succ, Nat.mul_comm]
  exact Nat.mul_le_mul_left _ hl
theorem zOU {s : Story} {f : Int} (o : Small s 3 2 f) {h : House} (hh : h ∈ q9 s.first) : (P0 s h).length ≤ 32 := by
 have v := o.told.first
 have h3 := o.told.steps
 have h1 := zOn (m := 2) (fun w hw => by have := o.ways w hw; omega) s.steps.length (Y8 s)
 have h2 : 2 ^ s.steps.length ≤ 2 ^ 3 := Nat.pow_le_pow_right (by omega) h3
 have h4 := zNs (fun t : Truth => t.now h) 4 (r5 s) (fun t ht => by
  have k := zOm s.steps.length (A6 v) (fun x hx => by simp [Y8]) t ht h hh
  have := (zDU v t ht).steps
  omega)
 have h5 : (r5 s).length ≤ 2 ^ s.steps.length := h1
 unfold P0
 omega
theorem zNS (l : List House) : (s6 l).length ≤ l.length := N2 (R3 l).nodup (fun _ hx => mem_sortH.1 hx)
theorem zRX {s : Story} (o : Told s) {h z : House} (hh : h ∈ q9 s.first) (hz : z ∈ P0 s h) : 0 ≤ z.street ∧ z.street < s.first.length ∧ z.plate.ok = true := by
 obtain ⟨t, ht, hz⟩ := List.mem_flatMap.1 hz
 have k := zDU o.first t ht
 obtain ⟨h1, h2, h3⟩ := mem_houses.1 (k.mem h hh z hz)
 exact ⟨h1, by have := k.town; omega, (k.val.row _).ok _ h3⟩
def zR1 (s : Story) (f : Fact) : Story := ⟨s.first, s.steps, s.facts ++ [f]⟩
theorem zOo (s : Story) (f : Fact) : ∀ (n : Nat) (t : Truth), l4 (zR1 s f) n t = l4 s n t
 | 0, t => rfl
 | n + 1, t => by
  rw [l4, l4]
  refine G4 (fun i _ => ?_)
  show (if _ then l4 (zR1 s f) n _ else []) = _
  rw [zOo s f n]; rfl
theorem zOR (s : Story) (f : Fact) : r5 (zR1 s f) = (r5 s).filter (fun t => decide (f.dst ∈ t.now f.src)) := by
 rw [← zI4, ← zI4, List.filter_filter, show B3 (zR1 s f) = B3 s from zOo s f _ _]
 congr 1
 funext t
 simp only [f7, zR1, List.all_append, List.all_cons, List.all_nil, Bool.and_true]
 exact Bool.and_comm _ _
theorem zRR {s : Story} {f : Fact} (o : Told s) (hl : s.facts.length ≤ 3) (h1 : f.src ∈ q9 s.first) (h2 : 0 ≤ f.dst.street ∧ f.dst.street < s.first.length ∧ f.dst.plate.ok = true) : Told (zR1 s f) where
 first := o.first
 steps := o.steps
 ways := o.ways
 facts := by simp [zR1]; omega
 fact := fun g hg => by
  rcases List.mem_append.1 (show g ∈ s.facts ++ [f] from hg) with hg | hg
  ·exact o.fact g hg
  ·rw [List.mem_singleton.1 hg]
   refine ⟨h1, ?_, h2.2.2⟩
   show zLr f.dst.street 0 ((s.first.length : Int) - 1) = true
   unfold zLr
   rw [Bool.and_eq_true, decide_eq_true_eq, decide_eq_true_eq]
   omega
theorem zRS (s : Story) (h to : House) : (r5 (zR1 s ⟨h, to⟩)).length = zNE s h to := by
 rw [zOR, ← List.countP_eq_length_filter]; rfl
theorem zRU (s : Story) (f : Fact) : (C4 (zR1 s f)).Sublist (C4 s) := by
 unfold C4
 rw [zOR]
 exact List.filter_sublist.map _
theorem zPZ {s : Story} {h to : House} (hne : r5 (zR1 s ⟨h, to⟩) ≠ []) : to ∈ P0 (zR1 s ⟨h, to⟩) h ∧ ∀ z, z ∈ P0 (zR1 s ⟨h, to⟩) h → z ∈ P0 s h := by
 unfold P0
 rw [zOR] at hne ⊢
 constructor
 ·obtain ⟨t, ht⟩ := List.exists_mem_of_ne_nil _ hne
  exact List.mem_flatMap.2 ⟨t, ht, by simpa using (List.mem_filter.1 ht).2⟩
 ·intro z hz
  obtain ⟨t, ht, hz⟩ := List.mem_flatMap.1 hz
  exact List.mem_flatMap.2 ⟨t, (List.mem_filter.1 ht).1, hz⟩
theorem zPX (s : Story) (h to : House) : zNE s h to ≤ (r5 s).length := List.countP_le_length
theorem zPa {s : Story} (o : Told s) {h : House} (hh : h ∈ q9 s.first) (hne : r5 s ≠ []) : M6 s h = 0 := by
 unfold M6
 rw [if_pos (zLj o), if_pos hh, if_neg hne]
theorem zNl {s : Story} (o : Told s) : Bound 1048576 s := by
 have v := o.first
 have hp : PlanB 1048576 s.first := ⟨by have := v.len; omega, fun l hl => by have := (v.rows l hl).len; omega, fun l hl x hx => by
  have := (o3 x).1 ((v.rows l hl).ok x hx)
  exact ⟨C5 (by omega) (by omega), C5 (by omega) (by omega)⟩⟩
 refine ⟨hp, by have := o.steps; omega, fun w hw => by have := (o.ways w hw).2.1; omega, by have := o.facts; omega, fun f hf => ?_⟩
 obtain ⟨h1, h2, h3⟩ := o.fact f hf
 have h4 := betw_iff.1 h2
 have h5 := v.len
 have h6 := (o3 _).1 h3
 exact ⟨v.wf _ h1, C5 (by omega) (by omega), C5 (by omega) (by omega), C5 (by omega) (by omega)⟩
end Go.Abs

namespace Go.Proofs
open Go.Shelf
def Tryz.sortPlace_ren : Go.Shelf.Ren := ⟨fun | 6 => 135 | 15 => 154 | 14 => 159 | 28 => 184 | 29 => 185 | 20 => 186 | 21 => 187 | 22 => 188 | 23 => 189 | 24 => 190 | 25 => 191 | 26 => 192 | 27 => 193 | 46 => 205 | 47 => 201 | 48 => 202 | 49 => 206 | 50 => 207 | 57 => 209 | n => n, fun | 22 => 50 | 24 => 57 | 25 => 169 | 3 => 3 | 39 => 129 | 0 => 0 | 53 => 209 | 55 => 113 | 4 => 4 | 46 => 202 | 45 => 201 | 50 => 206 | 5 => 5 | 9 => 9 | 66 => 222 | 70 => 225 | 76 => 229 | 77 => 230 | n => n, fun | n => n⟩
theorem Tryz.sortPlace : Go.Proofs.SlLaysF0.n6 Tryz.prog Tryz.sortPlace_ren := {
 mixed := by kernel_rfl
 f6 := ⟨Tryz.f135.name, by decide, Tryz.func135.trans (congrArg some (by kernel_rfl))⟩
 f14 := ⟨Tryz.f159.name, by decide, Tryz.func159.trans (congrArg some (by kernel_rfl))⟩
 f15 := Tryz.func154.trans (congrArg some (by kernel_rfl))
 f20 := ⟨Tryz.f186.name, by decide, Tryz.func186.trans (congrArg some (by kernel_rfl))⟩
 f21 := ⟨Tryz.f187.name, by decide, Tryz.func187.trans (congrArg some (by kernel_rfl))⟩
 f22 := ⟨Tryz.f188.name, by decide, Tryz.func188.trans (congrArg some (by kernel_rfl))⟩
 f23 := ⟨Tryz.f189.name, by decide, Tryz.func189.trans (congrArg some (by kernel_rfl))⟩
 f24 := ⟨Tryz.f190.name, by decide, Tryz.func190.trans (congrArg some (by kernel_rfl))⟩
 f25 := ⟨Tryz.f191.name, by decide, Tryz.func191.trans (congrArg some (by kernel_rfl))⟩
 f26 := ⟨Tryz.f192.name, by decide, Tryz.func192.trans (congrArg some (by kernel_rfl))⟩
 f27 := ⟨Tryz.f193.name, by decide, Tryz.func193.trans (congrArg some (by kernel_rfl))⟩
 f28 := Tryz.func184.trans (congrArg some (by kernel_rfl))
 f29 := Tryz.func185.trans (congrArg some (by kernel_rfl))
 f46 := ⟨Tryz.f205.name, by decide, Tryz.func205.trans (congrArg some (by kernel_rfl))⟩
 f47 := Tryz.func201.trans (congrArg some (by kernel_rfl))
 f48 := Tryz.func202.trans (congrArg some (by kernel_rfl))
 f49 := ⟨Tryz.f206.name, by decide, Tryz.func206.trans (congrArg some (by kernel_rfl))⟩
 f50 := ⟨Tryz.f207.name, by decide, Tryz.func207.trans (congrArg some (by kernel_rfl))⟩
 f57 := ⟨Tryz.f209.name, by decide, Tryz.func209.trans (congrArg some (by kernel_rfl))⟩
 t0 := Tryz.underlying0
 a0 := Tryz.isAgg0
 z0 := Tryz.sizeOf0
 v0 := Tryz.zeroValue0
 t3 := Tryz.underlying3
 a3 := Tryz.isAgg3
 z3 := Tryz.sizeOf3
 v3 := Tryz.zeroValue3
 t4 := Tryz.underlying4
 a4 := Tryz.isAgg4
 z4 := Tryz.sizeOf4
 v4 := Tryz.zeroValue4
 t5 := Tryz.underlying5
 a5 := Tryz.isAgg5
 z5 := Tryz.sizeOf5
 v5 := Tryz.zeroValue5
 t9 := Tryz.underlying9
 a9 := Tryz.isAgg9
 z9 := Tryz.sizeOf9
 v9 := Tryz.zeroValue9
 t22 := Tryz.underlying50
 a22 := Tryz.isAgg50
 z22 := Tryz.sizeOf50
 v22 := Tryz.zeroValue50
 t25 := Tryz.underlying169
 a25 := Tryz.isAgg169
 z25 := Tryz.sizeOf169
 v25 := Tryz.zeroValue169
 t39 := Tryz.underlying129
 a39 := Tryz.isAgg129
 z39 := Tryz.sizeOf129
 v39 := Tryz.zeroValue129
 t45 := Tryz.underlying201
 a45 := Tryz.isAgg201
 z45 := Tryz.sizeOf201
 v45 := Tryz.zeroValue201
 t46 := Tryz.underlying202
 a46 := Tryz.isAgg202
 z46 := Tryz.sizeOf202
 v46 := Tryz.zeroValue202
 t50 := Tryz.underlying206
 a50 := Tryz.isAgg206
 z50 := Tryz.sizeOf206
 v50 := Tryz.zeroValue206
 t53 := Tryz.underlying209
 a53 := Tryz.isAgg209
 z53 := Tryz.sizeOf209
 v53 := Tryz.zeroValue209
 t55 := Tryz.underlying113
 a55 := Tryz.isAgg113
 z55 := Tryz.sizeOf113
 v55 := Tryz.zeroValue113
 t66 := Tryz.underlying222
 a66 := Tryz.isAgg222
 z66 := Tryz.sizeOf222
 v66 := Tryz.zeroValue222
 t70 := Tryz.underlying225
 a70 := Tryz.isAgg225
 z70 := Tryz.sizeOf225
 v70 := Tryz.zeroValue225
 t76 := Tryz.underlying229
 a76 := Tryz.isAgg229
 z76 := Tryz.sizeOf229
 v76 := Tryz.zeroValue229
 t77 := Tryz.underlying230
 a77 := Tryz.isAgg230
 z77 := Tryz.sizeOf230
 v77 := Tryz.zeroValue230 }
end Go.Proofs

namespace Go.Abs
open Go Go.Proofs Go.Sort
theorem SR.grown {E : Env} {I : Nat → Prop} {loc : Nat → Loc} {σ : AS} {a : Act} {w w' : World} (h : SR E I loc σ a w) (ho : w'.os = w.os) (ht : w'.tape = w.tape) (hu : w'.output = w.output) (hz : w.heap.size ≤ w'.heap.size)
  (hk : ∀ k, k < w.heap.size → w'.heap[k]? = w.heap[k]?) (hd : w.drawn ≤ w'.drawn) : SR E I loc σ a w' := by
 have hI : ∀ b, I b → w'.heap[b]? = w.heap[b]? := fun b hb => hk b (h.imm b hb)
 exact ⟨h.defers.imp (fun r g1 g2 g3 g4 => ⟨by rw [hk r (Array.getElem?_eq_some_iff.1 g1).1]; exact g1, g2, g3, g4⟩), h.size, fun t => (h.tmps t).mono hI (fun _ x => x) (fun _ _ => rfl),
  fun o => (h.objs o).mono hI (fun _ x => x) (fun _ _ => rfl) (fun e => h.un e) (fun hl b c hb => hk b ((h.objs o).lt hl hb)), h.inj, fun b hb => by have := h.imm b hb; omega, h.sep,
  h.fr.of_same ho ht hu hz (fun b hb _ => hk b (by have := h.fr.size; omega)) hd, h.base, h.top, h.keep⟩
def zM9 (h : House) : List Value := [.int .i64 h.street, .int .i64 h.plate.number, .int .i64 h.plate.letter]
theorem zOd (h : House) : h.enc.cells = (zM9 h).map AV.raw := rfl
theorem zPs (h : House) : ∀ j, j < 3 → ((zM9 h).getD j undef).oneCell' = true
 | 0, _ => rfl
 | 1, _ => rfl
 | 2, _ => rfl
 | j + 3, h => by omega
theorem zSE (d : List House) {t : Nat} (h : t < d.length * 3) : (flatK zM9 3 d.toArray)[t]! = (zM9 (d.getD (t / 3) default)).getD (t % 3) undef := by
 rw [get_flatK _ _ _ _ (by simpa using h)]
 have h1 : t / 3 < d.length := by omega
 have h2 : t % 3 < 3 := by omega
 have e : d.toArray[t / 3]! = d.getD (t / 3) default := by simp [List.getD, h1]
 rw [e]
 rw [getElem!_pos _ _ (by simpa [zM9] using h2)]
 simp [List.getD, zM9, h2]
theorem zRD {P : Program} {f : FuncId} {fn : Value} (le : House → House → Bool)
  (hsome : ∀ (blk cap : Nat) (d : Array House) (w : World), HoldsK zM9 3 w blk 0 d → blk < w.heap.size → d.size < 4611686018427387904 →
   Calls P f #[.slice (some ⟨blk, 0, none⟩) d.size cap, fn] w fun e w' => e = .returned (.tuple #[]) ∧ ∃ n os, w' = sortWorldK zM9 3 w blk 0 n (d.toList.mergeSort le).toArray os)
  (hnone : ∀ (p : Option Addr) (cap : Nat) (w : World), Calls P f #[.slice p 0 cap, fn] w fun e w' => e = .returned (.tuple #[]) ∧ w' = w)
  (l : List House) (hl : l.length < 4611686018427387904) :
  zLp P f [.own 0 3 0 l.length, .raw fn] [.row 3 (l.map House.enc)] (.tup []) [.row 3 ((l.mergeSort le).map House.enc)] := by
 intro w I loc vs hs hv hargs
 obtain ⟨v0, v1, rfl⟩ : ∃ v0 v1, vs = #[v0, v1] := by
  have h2 : vs.size = 2 := hv
  exact ⟨vs[0], vs[1], by apply Array.ext <;> simp [h2]; intro i hi _; match i, hi with | 0, _ => rfl | 1, _ => rfl⟩
 have h0 := hargs 0 (by simp) (by simp)
 have h1 := (hargs 1 (by simp) (by simp)).raw_eq
 simp only [List.getElem_cons_zero, List.getElem_toArray] at h0
 simp only [List.getElem_toArray, List.getElem_cons_succ, List.getElem_cons_zero] at h1
 subst h1
 by_cases hl0 : l = []
 ·subst hl0
  obtain ⟨p, cap, rfl⟩ : ∃ p cap, v0 = .slice p 0 cap := by
   cases h0 with
   | pure h => cases h
   | ownN o sz h => exact ⟨_, _, rfl⟩
   | own o sz off len b c a cap => exact ⟨_, _, rfl⟩
  refine (hnone p cap w).mono ?_
  rintro e w' ⟨rfl, rfl⟩
  exact ⟨_, I, loc, rfl, ⟨by simpa using hs, .tup [] #[] rfl (fun i h => by cases h), by simp⟩⟩
 ·have hpos : 0 < l.length := List.length_pos_iff.2 hl0
  generalize hn : l.length = n at h0
  cases h0 with
  | pure h => cases h
  | ownN o sz h => omega
  | own o sz off len b c a cap hb hcap hcs ha =>
   have ha := ha (by omega)
   subst ha
   subst hn
   have hO : OR w I loc 0 (.row 3 (l.map House.enc)) := hs.objs 0
   obtain ⟨_, _, hO⟩ := hO
   rcases hO with ⟨hn, _⟩ | ⟨b', C, e, hb', hh, hsz, hcell⟩
   ·rw [hb] at hn; cases hn
   rw [hb] at hb'
   injection hb' with hb1 hb2
   subst hb1 hb2
   rw [List.length_map] at hsz
   have hblk : b < w.heap.size := (Array.getElem?_eq_some_iff.1 hh).1
   have key : ∀ t, t < l.length * 3 → C[t]? = some ((zM9 (l.getD (t / 3) default)).getD (t % 3) undef) := fun t ht => by
    have i1 : t / 3 < l.length := by omega
    have i2 : t % 3 < 3 := by omega
    have i3 : t / 3 * 3 + t % 3 = t := by omega
    have hp := hcell (t / 3) (by simpa using i1) (t % 3) (by simp [AV.cells]; exact i2) (by rw [i3]; omega)
    have e1 : ((l.map House.enc)[t / 3]'(by simpa using i1)).cells = (zM9 (l.getD (t / 3) default)).map AV.raw := by
     rw [List.getElem_map, zOd]; simp [List.getD, i1]
    have e2 : (((l.map House.enc)[t / 3]'(by simpa using i1)).cells[t % 3]'(by rw [e1]; simpa [zM9] using i2)) = .raw ((zM9 (l.getD (t / 3) default)).getD (t % 3) undef) := by
     simp only [e1]
     rw [List.getElem_map]
     simp [List.getD, zM9, i2]
    rw [e2] at hp
    have := (VR.pure (loc := loc) hp).raw_eq
    simp only [i3] at this
    rw [Array.getElem?_eq_getElem (by omega), this]
   have hH : HoldsK zM9 3 w b 0 l.toArray := fun j hj => by
    have hj' : j < l.length * 3 := by simpa using hj
    refine ⟨?_, ?_⟩
    ·simp only [World.cell?, hh, Nat.zero_add, key j hj', id, zSE l hj']; rfl
    ·simp [World.frozen?, hh]
   refine (hsome b cap l.toArray w hH hblk (by simpa using hl)).mono ?_
   rintro e' w' ⟨rfl, n, os, rfl⟩
   simp only [List.toList_toArray]
   have hpm : (l.mergeSort le).length = l.length := List.length_mergeSort l
   generalize l.mergeSort le = d at *
   have hF : (flatK zM9 3 d.toArray).size = l.length * 3 := by simp [hpm]
   obtain ⟨F, hFe⟩ : ∃ F, F = flatK zM9 3 d.toArray := ⟨_, rfl⟩
   have hw1 : (putRowK zM9 3 (Sort.ahead w n) b 0 d.toArray).heap[b]? = some (.cells (putCells id 0 F C) e (0, 0)) := by
    unfold putRowK putRow mapBlock
    rw [hFe]
    simp [Sort.ahead, Array.getElem?_modify, hh, onCells]
   have hsr : SR (Y7 w I 1 loc) I loc ((Go.Abs.hs [.row 3 (l.map House.enc)]).setO 0 (.row 3 (d.map House.enc))) J3 (putRowK zM9 3 (Sort.ahead w n) b 0 d.toArray) := by
    refine SR.writeG (w' := putRowK zM9 3 (Sort.ahead w n) b 0 d.toArray) (A := .row 3 (d.map House.enc)) hs (by rfl) hb rfl rfl rfl (by simp [putRowK, Sort.ahead]) (fun k hk => ?_) ?_ (by simp) (Nat.le_add_right _ _)
    ·unfold putRowK putRow mapBlock
     simp [Sort.ahead, Array.getElem?_modify, Ne.symm hk]
    ·refine ⟨by omega, fun i hi => by simp [AV.cells], .inr ⟨b, putCells id 0 F C, e, ?_, hw1, ?_, fun i hi j hj hij => ?_⟩⟩
     ·rw [hb]; simp [putCells]
     ·simp only [putCells, Array.size_mapIdx, List.length_map]; omega
     ·have hi' : i < d.length := by simpa using hi
      have hj' : j < 3 := by simpa [AV.cells] using hj
      have ht : i * 3 + j < d.length * 3 := by omega
      have e1 : ((d.map House.enc)[i]).cells = (zM9 (d.getD i default)).map AV.raw := by
       rw [List.getElem_map, zOd]; simp [List.getD, hi']
      have e2 : ((d.map House.enc)[i]).cells[j] = .raw ((zM9 (d.getD i default)).getD j undef) := by
       simp only [e1]
       rw [List.getElem_map]
       simp [List.getD, zM9, hj']
      have e3 : (putCells id 0 F C)[i * 3 + j] = (zM9 (d.getD i default)).getD j undef := by
       simp only [putCells, Array.getElem_mapIdx]
       rw [if_pos ⟨Nat.zero_le _, by rw [hFe, hF]; omega⟩, Nat.sub_zero, hFe, id, zSE d ht]
       rw [show (i * 3 + j) / 3 = i by omega, show (i * 3 + j) % 3 = j by omega]
      rw [e2, e3]
      exact .raw _ (zPs _ _ hj')
   have hsr2 := hsr.grown (w' := sortWorldK zM9 3 w b 0 n d.toArray os) rfl rfl rfl (by simp [sortWorldK]) (fun k hk => heap_grow_old _ _ hk) (Nat.le_refl _)
   refine ⟨_, I, loc, rfl, ⟨hsr2.congr rfl (fun t => rfl) (fun o => ?_), .tup [] #[] rfl (fun i h => by cases h), by simp⟩⟩
   rw [AS.obj_setO]
   by_cases ho : 0 = o
   ·subst ho; rfl
   ·rw [if_neg ho]
    simp [Go.Abs.hs, zLy, AS.obj, lkO, ho]
end Go.Abs

namespace Go.Abs
open Go
section
variable {P : Program} {E : Env} {I : Nat → Prop} {loc : Nat → Loc} {σ : AS} {a : Act} {w : World}
theorem zPv (hs : SR E I loc σ a w) {x : Operand} {t et ty : TypeId} {z : Value} {sz : Nat} (ht : P.underlying t = some (.slice et)) (hz : ∀ w, (zeroValue et).run P w = .ok z w) (hzc : z.cells.size = sz) (hz1 : ∀ i (h : i < z.cells.size), (z.cells[i]).oneCell' = true)
  {oid off len : Nat} {xs : List AV} (hx : σ.ev x = .own oid sz off len) (hA : σ.obj oid = .row sz xs) (hlen : off + len = xs.length) (hpos : 0 < len) :
  ∃ w', (Builtin.clear_ #[t] ty #[a.eval x]).run P w = .ok (.tuple #[]) w' ∧ SR E I loc (σ.setO oid (.row sz (xs.take off))) a w' := by
 have hv := hs.ev x
 rw [hx] at hv
 have hlive : (σ.obj oid).live = true := by rw [hA]; rfl
 have hO : OR w I loc oid (.row sz xs) := by rw [← hA]; exact hs.objs oid
 generalize a.eval x = v at hv
 cases hv with
 | pure hp => cases hp
 | ownN o sz h => omega
 | own o sz off len b c ad cap hb hcap hcs ha =>
  obtain ⟨h0, hxl, hO⟩ := hO
  rcases hO with ⟨hn, _⟩ | ⟨b', C, e, hb', hC, hsz, hcell⟩
  ·rw [hb] at hn; cases hn
  rw [hb] at hb'
  injection hb' with hb1 hb2
  subst hb1 hb2
  have had := ha (by omega)
  subst had
  obtain ⟨us, hus⟩ : ∃ us, us = Builtin.zeroCells z.cells len := ⟨_, rfl⟩
  have husz : us.size = len * sz := by rw [hus]; simp [Builtin.zeroCells, hzc]
  have hus1 : ∀ v, v ∈ us.toList → v.oneCell' = true := fun v hv => by
   rw [hus] at hv
   simp only [Builtin.zeroCells, Array.toList_map, List.mem_map] at hv
   obtain ⟨i, _, rfl⟩ := hv
   have hi : i % z.cells.size < z.cells.size := Nat.mod_lt _ (by omega)
   rw [getElem!_pos z.cells _ hi]
   exact hz1 _ hi
  have hfit : off * sz + us.size ≤ C.size := by
   rw [husz, ← Nat.add_mul, hlen]; exact hsz
  have hst := run_storeCells_at P b (off * sz) e us.toList 0 C w hC (by simpa using hfit) hus1
  have hspl : (C.toList.take (off * sz + 0) ++ us.toList ++ C.toList.drop (off * sz + 0 + us.toList.length)).toArray = spl C (off * sz) us := by simp [spl]
  rw [hspl] at hst
  obtain ⟨m, rfl⟩ : ∃ m, len = m + 1 := ⟨len - 1, by omega⟩
  refine ⟨w.setRow b (spl C (off * sz) us), ?_, ?_⟩
  ·rw [hus] at hst ⊢
   simp [Builtin.clear_, run_underlying ht, hz, hst]
  ·have hsep := hs.sep oid b C.size hlive hb
   refine hs.write hlive hb hC (A := .row sz (xs.take off)) ⟨h0, fun i hi => ?_, .inr ⟨b, spl C (off * sz) us, e, by rw [o9 hfit]; exact hb, setRow_heap w b C _ e _ hC, ?_, fun i hi j hj hij => ?_⟩⟩ (by simp)
   ·rw [List.getElem_take]; exact hxl _ _
   ·rw [o9 hfit, List.length_take]
    exact Nat.le_trans (Nat.mul_le_mul_right _ (by omega)) hsz
   ·have hi' : i < off := by simp at hi; omega
    have hi2 : i < xs.length := by omega
    have e1 : ((xs.take off)[i]'hi) = xs[i] := List.getElem_take
    have hj' : j < (xs[i]).cells.length := by rw [← e1]; exact hj
    have hjs : j < sz := by rw [← hxl i hi2]; exact hj'
    have hlt : i * sz + j < off * sz := by
     have := Nat.mul_le_mul_right sz (show i + 1 ≤ off by omega)
     rw [Nat.add_mul, Nat.one_mul] at this
     omega
    have hijC : i * sz + j < C.size := by omega
    have e2 : ((xs.take off)[i]'hi).cells[j] = (xs[i]).cells[j] := by congr 2
    rw [e2, K3 hfit _ hij hijC, dif_neg (by omega)]
    exact (hcell i hi2 j hj' hijC).mono (fun k hk => setRow_other w b k _ (fun e => hsep.1 (e ▸ hk))) (fun _ x => x)
theorem zP9 {Q : Exit → AS → Prop} {id : Nat} {pre : List Oper} {o : Oper} {x : Operand} {t et : TypeId} {z : Value} (sz : Nat) (hop : o.op = .call ⟨.builtin .clear, #[x], #[t]⟩) (hg : o.guard = none) (hdst : o.dst = none)
  (ht : P.underlying t = some (.slice et)) (hz : ∀ w, (zeroValue et).run P w = .ok z w) (hzc : z.cells.size = sz) (hz1 : ∀ i (h : i < z.cells.size), (z.cells[i]).oneCell' = true)
  (h : y6 P (pre ++ [o]) (fun σ1 _ => ∃ oid off len xs, σ1.ev x = .own oid sz off len ∧ σ1.obj oid = .row sz xs ∧ off + len = xs.length ∧ 0 < len ∧ Q .normal (σ1.setO oid (.row sz (xs.take off)))) pre σ []) : Hold P E (.region id (pre ++ [o]).toArray false) Q σ := fun a w hs => by
 refine wpIn_wide.1 (wpIn_region_list (n := 0) ?_)
 refine E8 (post := [o]) ?_ pre σ [] a w h hs
 rintro σ1 ts1 a1 w1 ⟨oid, off, len, xs, h1, h2, h3, h4, hq⟩ ⟨I1, loc1, hs1⟩
 unfold wpListIn
 rw [if_pos (by simp [Region.wanted, hg])]
 obtain ⟨w', hr, hsr⟩ := zPv (ty := o.type) hs1 ht hz hzc hz1 h1 h2 h3 h4
 refine zM4 (M7 (x := .tuple #[]) (w' := w') ?_ ?_)
 ·simp only [execOp, hop, resolve, Sem.run_bind, Sem.run_pure, Result.andThen_ok, invoke]
  simp [builtin, hr]
 ·rw [hdst]
  exact ⟨_, hq, I1, loc1, hsr⟩
end
end Go.Abs

namespace Go.Abs
open Go Go.Proofs Go.Sort
abbrev zSB (w : World) : Nat → Prop := fun b => b < w.heap.size
theorem zPj (w : World) : SR (Y7 w (zSB w) 0 (fun _ => .un)) (zSB w) (fun _ => .un) (hs []) J3 w :=
 ⟨.nil, rfl, fun t => .pure (.any _), fun o => rfl, fun o o' b c c' h => by simp [hs, zLy, AS.obj, lkO, AObj.live] at h, fun b hb => hb, fun o b c h => by simp [hs, zLy, AS.obj, lkO, AObj.live] at h,
  ⟨rfl, rfl, rfl, Nat.le_refl _, fun b _ _ => rfl, Nat.le_refl _⟩, fun b hb => hb, fun b hb => .inl hb, fun k hk => absurd hk (Nat.not_lt_zero k)⟩
theorem zPn {P : Program} {f : FuncId} {args : List AV} {r : Value} (sp : zLp P f args [] (.raw r) []) (w : World) (vs : Array Value) (hl : vs.size = args.length) (hv : ∀ i (h : i < args.length) (h' : i < vs.size), PR w (zSB w) args[i] vs[i]) :
  Calls P f vs w fun e w' => e = .returned r ∧ ∃ q os', w' = grow (w.drewN q) os' := by
 refine (sp w (zSB w) (fun _ => .un) vs (zPj w) hl (fun i h h' => .pure (hv i h h'))).mono ?_
 rintro e w' ⟨v, I', loc', rfl, hp⟩
 have hr := hp.val.raw_eq
 subst hr
 have fr := hp.sr.fr
 refine ⟨rfl, w'.drawn - w.drawn, w'.heap.extract w.heap.size w'.heap.size, ?_⟩
 have h1 : w'.os = w.os := fr.os
 have h2 : w'.tape = w.tape := fr.tape
 have h3 : w'.output = w.output := fr.output
 have h4 : w.heap.size ≤ w'.heap.size := fr.size
 have h5 : ∀ k, k < w.heap.size → w'.heap[k]? = w.heap[k]? := fun k hk => fr.block k hk (fun ⟨j, c, hj, _⟩ => absurd hj (Nat.not_lt_zero j))
 have h6 : w.drawn ≤ w'.drawn := fr.drawn
 have h7 : w'.heap = w.heap ++ w'.heap.extract w.heap.size w'.heap.size := by
  apply Array.ext
  ·simp; omega
  ·intro i hi1 hi2
   by_cases hi : i < w.heap.size
   ·have := h5 i hi
    rw [Array.getElem?_eq_getElem hi1, Array.getElem?_eq_getElem hi] at this
    rw [Array.getElem_append_left hi]
    exact Option.some.inj this
   ·rw [Array.getElem_append_right (by omega), Array.getElem_extract]
    congr 1
    omega
 cases w' with
 | mk heap tape drawn os output =>
  simp only at h1 h2 h3 h4 h6 h7
  subst h1 h2 h3
  have h8 : w.drawn + (drawn - w.drawn) = drawn := by omega
  show _ = ({ heap := w.heap ++ _, tape := w.tape, drawn := w.drawn + (drawn - w.drawn), os := w.os, output := w.output } : World)
  rw [h8, ← h7]
theorem zO0 (w : World) (I : Nat → Prop) (x : House) : PR w I x.enc (.agg (zM9 x).toArray) := by
 refine .agg _ _ rfl (fun i h h' => ?_)
 match i, h with
 | 0, _ => exact .raw _ rfl
 | 1, _ => exact .raw _ rfl
 | 2, _ => exact .raw _ rfl
 | i + 3, h => exact absurd h (by show ¬ i + 3 < 3; omega)
theorem zQY (blk off size : Nat) (w : World) : CmpLays Tryz.prog 136 #[] zM9 3 zME blk off size w := fun m os dk _ x y => by
 refine zPn (zHe x y) _ #[.agg (zM9 x).toArray, .agg (zM9 y).toArray] rfl (fun i h h' => ?_)
 match i, h with
 | 0, _ => exact zO0 _ _ x
 | 1, _ => exact zO0 _ _ y
 | i + 2, h => exact absurd h (by show ¬ i + 2 < 2; omega)
theorem zOy (x y : House) : ltOf zME x y = true ↔ x.lt y = true := by
 unfold ltOf
 rw [decide_eq_true_eq, A0]
theorem zNi (x y : House) : ltOf zME x y = false ↔ ¬ x.lt y = true := by
 rw [← zOy]; cases ltOf zME x y <;> simp
theorem zRJ : SWO (ltOf zME) where
 irrefl x := by rw [zNi, House.lt_iff]; omega
 trans x y z h1 h2 := by rw [zOy, House.lt_iff] at *; omega
 ntrans x y z h1 h2 := by rw [zNi, House.lt_iff] at *; omega
def leH (x y : House) : Bool := !(ltOf zME) y x
theorem zQp (xs : List House) (h : xs.length < 4611686018427387904) :
  zLp Tryz.prog 135 [.own 0 3 0 xs.length, fnV 136] [.row 3 (xs.map House.enc)] (.tup []) [.row 3 ((xs.mergeSort leH).map House.enc)] := by
 have eg : ∀ args w, (callFunc 136 args).run Tryz.prog w = .ok (.enter 136 args) w := fun args w => zAj (by kernel_rfl) args
 refine zRD leH (fun blk cap d w hH hblk hsz => ?_) (fun p cap w => AnyF.slices_SortFunc_none Tryz.sortPlace p cap _ w) xs h
 exact AnyQ.slices_SortFunc_total Tryz.sortPlace 3 Tryz.isAgg57 Tryz.sizeOf57 zM9 (fun _ => rfl) (fun x v hv => by simp [zM9] at hv; rcases hv with rfl | rfl | rfl <;> rfl) zME zRJ 136 #[] blk 0 cap d w eg (zQY blk 0 d.size w) hH hblk hsz
  (fun x y h1 h2 => by
   rw [zNi] at h1 h2
   rcases House.lt_tri x y with h | h | h
   ·exact absurd h h1
   ·exact h
   ·exact absurd h h2)
end Go.Abs

namespace Go.Abs
open Go Go.Proofs Tryz
attribute [local irreducible] y6 Hold x8
section
variable {P : Program} {E : Env} {Q : Exit → AS → Prop} {σ : AS} {p : List Nat} {b : Code}
theorem zQe {id : Nat} {ops : List Oper} {o : Oper} {x : Operand} {t et : TypeId} {z : Value} (k sz : Nat) (h : sub p b = .region id ops.toArray false) (hk : ops[k]? = some o) (hl : ops.length = k + 1) (hop : o.op = .call ⟨.builtin .clear, #[x], #[t]⟩) (hg : o.guard = none) (hdst : o.dst = none)
  (ht : P.underlying t = some (.slice et)) (hz : ∀ w, (zeroValue et).run P w = .ok z w) (hzc : z.cells.size = sz) (hz1 : ∀ i (h : i < z.cells.size), (z.cells[i]).oneCell' = true)
  (hx : y6 P ops (fun σ1 _ => ∃ oid off len xs, σ1.ev x = .own oid sz off len ∧ σ1.obj oid = .row sz xs ∧ off + len = xs.length ∧ 0 < len ∧ Q .normal (σ1.setO oid (.row sz (xs.take off)))) (ops.take k) σ []) : Hold P E (sub p b) Q σ := by
 obtain ⟨hlt, he⟩ := List.getElem?_eq_some_iff.1 hk
 have e : ops = ops.take k ++ [o] := by
  rw [← he]
  conv => lhs; rw [← List.take_append_drop k ops, List.drop_eq_getElem_cons hlt, List.drop_of_length_le (by omega)]
 obtain ⟨pre, hpre⟩ : ∃ pre, pre = ops.take k := ⟨_, rfl⟩
 rw [← hpre] at e hx
 rw [h]
 clear h hk he hlt hpre hl
 subst e
 exact zP9 sz hop hg hdst ht hz hzc hz1 hx
end
structure CmpTo (xs ys : List House) (p kk : Nat) : Prop where
 len : ys.length = xs.length
 kept : ys.take kk = zNB xs p
 num : (zNB xs p).length = kk
 less : kk < p
 rest : ∀ j, p ≤ j + 1 → j < xs.length → ys.getD j default = xs.getD j default
theorem CmpTo.same {xs ys : List House} {p kk : Nat} (h : CmpTo xs ys p kk) (hp : 0 < p) (e : xs.getD p default = xs.getD (p - 1) default) : CmpTo xs ys (p + 1) kk := by
 obtain ⟨h1, h2, h3, h4, h5⟩ := h
 refine ⟨h1, ?_, ?_, by omega, fun j h6 h7 => h5 j (by omega) h7⟩ <;> rw [zN7 hp e] <;> assumption
theorem CmpTo.new {xs ys : List House} {p kk : Nat} (h : CmpTo xs ys p kk) (hp : p < xs.length) (e : ¬ xs.getD p default = xs.getD (p - 1) default) : CmpTo xs (ys.set kk (xs.getD p default)) (p + 1) (kk + 1) := by
 obtain ⟨h1, h2, h3, h4, h5⟩ := h
 have hkk : kk < ys.length := by omega
 refine ⟨by simpa using h1, ?_, ?_, by omega, fun j h6 h7 => ?_⟩
 ·rw [zOg e, ← h2, List.take_add_one, List.take_set_of_le (Nat.le_refl _)]
  simp [hkk]
 ·rw [zOg e, List.length_append, h3]; rfl
 ·have hne : ¬ kk = j := by omega
  rw [← h5 j (by omega) h7]
  simp [List.getD, List.getElem?_set, hne]
theorem CmpTo.start {xs : List House} {k : Nat} (h0 : 0 < k) (hk : k < xs.length) (ha : zNo xs k) (e : xs.getD k default = xs.getD (k - 1) default) : CmpTo xs xs (k + 1) k := by
 have h1 := zN6 (by omega) ha
 refine ⟨rfl, by rw [zN7 h0 e, h1], by rw [zN7 h0 e, h1]; simp; omega, by omega, fun _ _ _ => rfl⟩
theorem zPr (i : Nat) (h : i < (Value.agg #[.int .i64 0, .int .i64 0, .int .i64 0]).cells.size) : ((Value.agg #[.int .i64 0, .int .i64 0, .int .i64 0]).cells[i]).oneCell' = true := by
 match i, h with
 | 0, _ => rfl
 | 1, _ => rfl
 | 2, _ => rfl
 | i + 3, h => exact absurd h (by show ¬ i + 3 < 3; omega)
theorem zQl (l : List House) (h1 : l.length ≤ 4294967296) :
  zLp prog 137 [.own 0 3 0 l.length] [.row 3 (l.map House.enc)] (.own 0 3 0 (zNB l l.length).length) [.row 3 ((zNB l l.length).map House.enc)] := by
 have hend : ∀ k, l.length ≤ k → zNo l k → zNB l l.length = l := fun k hk ha => by
  rw [zN6 (Nat.le_refl _) (fun j h0 hj => ha j h0 (by omega)), List.take_of_length_le (Nat.le_refl _)]
 by_cases h2 : l.length < 2
 ·have h3 : (l.length : Int) < 2 := by omega
  have hs := hend 1
  refine q8 func137 rfl (fun E hE => ?_); simp only [go_sem, ntmps137]
  rw [show zNB l l.length = l from by
   rcases l with _ | ⟨x, _ | ⟨y, r⟩⟩
   ·rfl
   ·rfl
   ·simp at h2; omega]
  clear hend hs
  repeat' (first | (refine Qr rfl ?_; try intro _ hK; try simp only [go_sem, *]) | refine Qh rfl ?_ | refine Qd rfl (by kernel_rfl) ?_ | (refine Qc rfl rfl ?_ ?_ <;> (intro hb; have hc := hb; try simp only [go_sem] at hc)) | refine q6 rfl ?_ | (refine Qb ?_ ?_; focus kernel_rfl) | ((with_reducible apply And.intro); focus omega) | (refine z8 hK ?_; clear hK; simp only [go_sem, *]) | simp only [z6, z7, go_sem, *])
  all_goals try contradiction
  refine ⟨[_], [some 0], [], ⟨rfl, trivial⟩, ?_⟩
  simp only [go_sem, *]
 have h3 : ¬ (l.length : Int) < 2 := by omega
 obtain ⟨R, hR⟩ : ∃ R, zNB l l.length = R := ⟨_, rfl⟩
 rw [hR] at hend ⊢
 refine q8 func137 rfl (fun E hE => ?_); simp only [go_sem, ntmps137]
 repeat' (first | (refine Qr rfl ?_; try intro _ hK; try simp only [go_sem, *]) | refine Qh rfl ?_ | refine Qd rfl (by kernel_rfl) ?_ | (refine Qc rfl rfl ?_ ?_ <;> (intro hb; have hc := hb; try simp only [go_sem] at hc)) | refine q6 rfl ?_ | (refine Qb ?_ ?_; focus kernel_rfl) | ((with_reducible apply And.intro); focus omega) | (refine z8 hK ?_; clear hK; simp only [go_sem, *]) | simp only [z6, z7, go_sem, *])
 all_goals try contradiction
 refine u4 rfl (l.length - 1) (fun i (k : Nat) => (k ≤ i + 1 ∧ i + 1 ≤ k) ∧ zNo l k) 61 (fun i k => [(3, iV k), (0, .own 0 3 0 l.length)]) (fun i k => [.row 3 (l.map House.enc)]) [some 0] [] (1) (by exact ⟨⟨Nat.le_refl _, Nat.le_refl _⟩, fun j h0 hj => by omega⟩) ?_; intro i k hi hP
 obtain ⟨⟨hk1, hk2⟩, hP⟩ := hP
 have hw : IntKind.i64.wrap ((k : Int) - 1) = ((k - 1 : Nat) : Int) := by rw [wrap_i64 (by omega) (by omega)]; omega
 have hw2 : IntKind.i64.wrap ((k : Int) + 1) = ((k + 1 : Nat) : Int) := by rw [wrap_i64 (by omega) (by omega)]; omega
 by_cases hk : k < l.length
 ·have hk3 : (k : Int) < l.length := by omega
  have hkm : k - 1 < l.length := by omega
  by_cases e : l.getD k default = l.getD (k - 1) default
  ·have e2 : decide (l.getD k default = l.getD (k - 1) default) = true := by simpa using e
   have hS := CmpTo.start (by omega) hk hP e
   clear e hend
   repeat' (first | (refine Qr rfl ?_; try intro _ hK; try simp only [go_sem, *]) | refine Qh rfl ?_ | refine Qd rfl (by kernel_rfl) ?_ | (refine Qc rfl rfl ?_ ?_ <;> (intro hb; have hc := hb; try simp only [go_sem] at hc)) | refine q6 rfl ?_ | (refine Qb ?_ ?_; focus kernel_rfl) | ((with_reducible apply And.intro); focus omega) | (refine z8 hK ?_; clear hK; simp only [go_sem, *]) | simp only [z6, z7, go_sem, *])
   all_goals try contradiction
   clear hP
   refine X7 rfl (fun zn zN zenv zAs => ∃ (j : Nat) (k2 kk : Nat) (ys : List House), zn = (l.length - k - 1) - j ∧ j ≤ (l.length - k - 1) ∧ ((k2 ≤ j + 1 ∧ j + 1 ≤ k2) ∧ CmpTo l ys (k + k2) kk) ∧ zN = 61 ∧ zenv = [(5, iV k2), (4, .own 0 3 k (l.length - k)), (3, iV kk), (0, .own 0 3 0 l.length)] ∧ zAs = [.row 3 (ys.map House.enc)]) (l.length - k - 1) ⟨[some 0], [], _, _, _, (by (simp only [Weak, go_sem, List.map_append, List.map_set, *] <;> (try simp (disch := omega) only [t8]) <;> (try simp) <;> (try omega))), 0, 1, k, l, (by simp), (by simp), (by exact ⟨⟨Nat.le_refl _, Nat.le_refl _⟩, hS⟩), rfl, rfl, rfl⟩ ?_; rintro _ _ _ _ ⟨j, k2, kk, ys, rfl, hj, hQ, rfl, rfl, rfl⟩
   clear hS
   obtain ⟨⟨hj1, hj2⟩, hQ⟩ := hQ
   have hyl := hQ.len
   have hkl := hQ.less
   have hv : IntKind.i64.wrap ((k2 : Int) - 1) = ((k2 - 1 : Nat) : Int) := by rw [wrap_i64 (by omega) (by omega)]; omega
   have hv2 : IntKind.i64.wrap ((k2 : Int) + 1) = ((k2 + 1 : Nat) : Int) := by rw [wrap_i64 (by omega) (by omega)]; omega
   have hv3 : IntKind.i64.wrap ((kk : Int) + 1) = ((kk + 1 : Nat) : Int) := by rw [wrap_i64 (by omega) (by omega)]; omega
   by_cases hp : k + k2 < l.length
   ·have hp3 : (k2 : Int) < ((l.length - k : Nat) : Int) := by omega
    have hp4 : k2 < l.length - k := by omega
    have hp5 : k2 - 1 < l.length - k := by omega
    have g1 := hQ.rest (k + k2) (by omega) hp
    have g2 := hQ.rest (k + (k2 - 1)) (by omega) (by omega)
    have hkp : k + k2 - 1 = k + (k2 - 1) := by omega
    have hp6 : k + (k2 - 1) < l.length := by omega
    have hkkl : kk < l.length := by omega
    by_cases e : l.getD (k + k2) default = l.getD (k + k2 - 1) default
    ·have hN := hQ.same (by omega) e
     rw [hkp] at e
     have e2 : decide (l.getD (k + k2) default = l.getD (k + (k2 - 1)) default) = true := by simpa using e
     clear e hkp
     repeat' (first | (refine Qr rfl ?_; try intro _ hK; try simp only [go_sem, *]) | refine Qh rfl ?_ | refine Qd rfl (by kernel_rfl) ?_ | (refine Qc rfl rfl ?_ ?_ <;> (intro hb; have hc := hb; try simp only [go_sem] at hc)) | refine q6 rfl ?_ | (refine Qb ?_ ?_; focus kernel_rfl) | ((with_reducible apply And.intro); focus omega) | (refine z8 hK ?_; clear hK; simp only [go_sem, *]) | simp only [z6, z7, go_sem, *])
     all_goals try contradiction
     refine ⟨_, (by omega), [some 0], [], _, _, _, (by (simp only [Weak, go_sem, List.map_append, List.map_set, *] <;> (try simp (disch := omega) only [t8]) <;> (try simp) <;> (try omega))), j + 1, k2 + 1, kk, ys, rfl, (by omega), (by exact ⟨⟨by omega, by omega⟩, hN⟩), rfl, rfl, rfl⟩
    ·have hN := hQ.new hp e
     rw [hkp] at e
     have e2 : decide (l.getD (k + k2) default = l.getD (k + (k2 - 1)) default) = false := by simpa using e
     clear e hkp
     repeat' (first | (refine Qr rfl ?_; try intro _ hK; try simp only [go_sem, *]) | refine Qh rfl ?_ | refine Qd rfl (by kernel_rfl) ?_ | (refine Qc rfl rfl ?_ ?_ <;> (intro hb; have hc := hb; try simp only [go_sem] at hc)) | refine q6 rfl ?_ | (refine Qb ?_ ?_; focus kernel_rfl) | ((with_reducible apply And.intro); focus omega) | (refine z8 hK ?_; clear hK; simp only [go_sem, *]) | simp only [z6, z7, go_sem, *])
     all_goals try contradiction
     refine ⟨_, (by omega), [some 0], [], _, _, _, (by (simp only [Weak, go_sem, List.map_append, List.map_set, *] <;> (try simp (disch := omega) only [t8]) <;> (try simp) <;> (try omega))), j + 1, k2 + 1, kk + 1, ys.set kk (l.getD (k + k2) default), rfl, (by omega), (by exact ⟨⟨by omega, by omega⟩, hN⟩), rfl, rfl, rfl⟩
   ·have hp3 : ¬ (k2 : Int) < ((l.length - k : Nat) : Int) := by omega
    have hpe : k + k2 = l.length := by omega
    rw [hpe] at hQ
    have hkept := hQ.kept
    have hnum := hQ.num
    rw [hR] at hkept hnum
    clear hR hQ
    repeat' (first | (refine zQe 3 3 rfl rfl rfl rfl rfl rfl Tryz.underlying50 Tryz.zeroValue57 rfl zPr ?_) | (refine Qr rfl ?_; try intro _ hK; try simp only [go_sem, *]) | refine Qh rfl ?_ | refine Qd rfl (by kernel_rfl) ?_ | (refine Qc rfl rfl ?_ ?_ <;> (intro hb; have hc := hb; try simp only [go_sem] at hc)) | refine q6 rfl ?_ | (refine Qb ?_ ?_; focus kernel_rfl) | ((with_reducible apply And.intro); focus omega) | (refine z8 hK ?_; clear hK; simp only [go_sem, *]) | simp only [z6, z7, go_sem, *])
    all_goals try contradiction
    refine ⟨0, kk, l.length - kk, ys.map House.enc, rfl, by rw [if_pos rfl], by rw [List.length_map]; omega, by omega, ?_⟩
    rw [← List.map_take, hkept]
    subst hnum
    repeat' (first | (refine Qr rfl ?_; try intro _ hK; try simp only [go_sem, *]) | refine Qh rfl ?_ | refine Qd rfl (by kernel_rfl) ?_ | (refine Qc rfl rfl ?_ ?_ <;> (intro hb; have hc := hb; try simp only [go_sem] at hc)) | refine q6 rfl ?_ | (refine Qb ?_ ?_; focus kernel_rfl) | ((with_reducible apply And.intro); focus omega) | (refine z8 hK ?_; clear hK; simp only [go_sem, *]) | simp only [z6, z7, go_sem, *])
    all_goals try contradiction
    refine ⟨[_], [some 0], [], ⟨rfl, trivial⟩, ?_⟩
    simp only [go_sem, *]
    all_goals rfl
  ·have e2 : decide (l.getD k default = l.getD (k - 1) default) = false := by simpa using e
   have hN : zNo l (k + 1) := fun j h0 hj => by
    rcases Nat.lt_or_ge j k with h | h
    ·exact hP j h0 h
    ·obtain rfl : j = k := by omega
     exact e
   clear e hend
   repeat' (first | (refine Qr rfl ?_; try intro _ hK; try simp only [go_sem, *]) | refine Qh rfl ?_ | refine Qd rfl (by kernel_rfl) ?_ | (refine Qc rfl rfl ?_ ?_ <;> (intro hb; have hc := hb; try simp only [go_sem] at hc)) | refine q6 rfl ?_ | (refine Qb ?_ ?_; focus kernel_rfl) | ((with_reducible apply And.intro); focus omega) | (refine z8 hK ?_; clear hK; simp only [go_sem, *]) | simp only [z6, z7, go_sem, *])
   all_goals try contradiction
   exact w6 (i' := i + 1) [some 0] [] (k + 1) (by exact ⟨⟨by omega, by omega⟩, hN⟩)
 ·have hk3 : ¬ (k : Int) < l.length := by omega
  have hRe := hend k (by omega) hP
  clear hend hR
  subst hRe
  repeat' (first | (refine Qr rfl ?_; try intro _ hK; try simp only [go_sem, *]) | refine Qh rfl ?_ | refine Qd rfl (by kernel_rfl) ?_ | (refine Qc rfl rfl ?_ ?_ <;> (intro hb; have hc := hb; try simp only [go_sem] at hc)) | refine q6 rfl ?_ | (refine Qb ?_ ?_; focus kernel_rfl) | ((with_reducible apply And.intro); focus omega) | (refine z8 hK ?_; clear hK; simp only [go_sem, *]) | simp only [z6, z7, go_sem, *])
  all_goals try contradiction
  refine ⟨[_], [some 0], [], ⟨rfl, trivial⟩, ?_⟩
  simp only [go_sem, *]
theorem zOi (l : List House) : zNB (l.mergeSort leH) l.length = s6 l := by
 have hp := List.pairwise_mergeSort (le := leH) (fun a b c h1 h2 => by
  unfold leH at *
  simp only [Bool.not_eq_true', zNi, House.lt_iff] at *
  omega) (fun a b => by
  unfold leH
  simp only [Bool.or_eq_true, Bool.not_eq_true', zNi, House.lt_iff]
  omega) l
 have hl : (l.mergeSort leH).length = l.length := List.length_mergeSort l
 have hs := zOh (xs := l.mergeSort leH) (hp.imp (fun {a b} h => by
  unfold leH at h
  simpa only [Bool.not_eq_true', zNi] using h)) l.length (by omega)
 refine I7 hs.1 (R3 l) (fun z => ?_)
 rw [hs.2, List.take_of_length_le (by omega), List.mem_mergeSort, mem_sortH]
theorem zPS (l : List House) (h : l.length ≤ 4294967296) : zLp prog 99 [.list (l.map House.enc)] [] (.list ((s6 l).map House.enc)) [] := by
 have ss := zQp l (by omega)
 have hl : (l.mergeSort leH).length = l.length := List.length_mergeSort l
 have sc := zQl (l.mergeSort leH) (by omega)
 rw [hl, zOi] at sc
 have hcl := zHH l h
 have hsl : (s6 l).length ≤ l.length := by rw [← zOi]; exact zOf _ _
 generalize l.mergeSort leH = M at *
 generalize s6 l = S at *
 refine q8 func99 rfl (fun E hE => ?_); simp only [go_sem, ntmps99]
 repeat' (first | (refine Qr rfl ?_; try intro _ hK; try simp only [go_sem, *]) | refine Qh rfl ?_ | (refine Qc rfl rfl ?_ ?_ <;> (intro hb; have hc := hb; try simp only [go_sem] at hc)) | refine q6 rfl ?_ | (refine s8 (hcl) ?_; simp only [go_sem, *]) | (refine y9 [0] [] (ss) (by simp) ?_ ?_ (by simp) (.inl rfl) ?_ ?_ ?_; (iterate 2 (focus (simp only [go_sem, *]; done))); (iterate 2 (focus (first | (simp; done) | (simp [go_sem]; done)))); simp only [go_sem, *]) | (refine y9 [0] [] (sc) (by simp) ?_ ?_ (by simp) (.inl rfl) ?_ ?_ ?_; (iterate 2 (focus (simp only [go_sem, *]; done))); (iterate 2 (focus (first | (simp; done) | (simp [go_sem]; done)))); simp only [go_sem, *]) | ((with_reducible apply And.intro); focus omega) | (refine z8 hK ?_; clear hK; simp only [go_sem, *]) | simp only [z6, z7, go_sem, *])
 all_goals try contradiction
 refine ⟨[_], [], [0], ⟨rfl, trivial⟩, ?_⟩
 simp only [go_sem, *]
 all_goals exact Nat.le_refl _
end Go.Abs

namespace Go.Abs
open Go Go.Proofs Tryz
attribute [local irreducible] y6 Hold x8
def zNd (p : zLo) : Bool := p.any fun l => decide (20 < l.length)
def zNT (p : zLo) : Bool := decide (20 < p.length) || zNd p
end Go.Abs

namespace Go.Abs
open Go Go.Proofs Tryz
attribute [local irreducible] y6 Hold x8
end Go.Abs

namespace Go.Abs
open Go Go.Proofs Tryz
attribute [local irreducible] y6 Hold x8
def bkt (L : List House) (i s : Nat) : List Plate := ((L.take i).filter (fun h => h.street == (s : Int))).map House.plate
end Go.Abs

namespace Go.Abs
open Go Go.Proofs Tryz
attribute [local irreducible] y6 Hold x8
def zND (p : zLo) (c : Change) : Int :=
 if zLr c.kind 1 7 = false then 8
 else if zLr c.street 0 (p.length - 1) = false then 3
 else if (c.kind = 4 ∨ c.kind = 7) ∧ zLr c.other 0 (p.length - 1) = false then 3
 else if (c.kind = 4 ∨ c.kind = 7) ∧ c.other = c.street then 4 else 0
def zNK (c : Change) : Change := ⟨c.kind, c.street, if c.kind = 4 ∨ c.kind = 7 then c.other else 0, if 5 ≤ c.kind then c.src else zeroPlate, if c.kind = 7 then c.dst else zeroPlate⟩
end Go.Abs

namespace Go.Abs
open Go Go.Proofs Tryz
attribute [local irreducible] y6 Hold x8
end Go.Abs

namespace Go.Abs
open Go Go.Proofs Tryz
attribute [local irreducible] y6 Hold x8
end Go.Abs

namespace Go.Abs
open Go Go.Proofs Tryz
attribute [local irreducible] y6 Hold x8
def mvs (p : zLo) (c : Change) (h : House) : List Move := (mv p c h).map fun z => ⟨h, z⟩
end Go.Abs

namespace Go.Abs
open Go Go.Proofs Tryz
attribute [local irreducible] y6 Hold x8
end Go.Abs

namespace Go.Abs
open Go Go.Proofs Tryz
attribute [local irreducible] y6 Hold x8
end Go.Abs

namespace Go.Abs
open Go Go.Proofs Tryz
attribute [local irreducible] y6 Hold x8
theorem zNZ (l : List House) (x : House) (h1 : l.length ≤ 4294967296) : zLp prog 43 [Q3 l, x.enc] [] (bV (decide (x ∈ l))) [] := by
 refine q8 func43 rfl (fun E hE => ?_); simp only [go_sem, ntmps43]
 repeat' (first | (refine Qr rfl ?_; try intro _ hK; try simp only [go_sem, *]) | refine Qh rfl ?_ | refine Qd rfl (by kernel_rfl) ?_ | (refine Qc rfl rfl ?_ ?_ <;> (intro hb; have hc := hb; try simp only [go_sem] at hc)) | refine q6 rfl ?_ | (refine Qb ?_ ?_; focus kernel_rfl) | ((with_reducible apply And.intro); focus omega) | (refine z8 hK ?_; clear hK; simp only [go_sem, *]) | simp only [z6, z7, go_sem, *])
 refine u3 rfl (l.length) (fun i => x ∉ l.take i) 18 (fun i => [(5, iV i), (3, .ptr 0 0), (0, Q3 l)]) (fun i => [.box [iV x.street, iV x.plate.number, iV x.plate.letter]]) [some 0] [] (by simp) ?_; intro i hi hP
 by_cases hi : i < l.length
 ·by_cases q : l.getD i default = x
  ·have q' : decide (l.getD i default = x) = true := decide_eq_true q
   have hm : decide (x ∈ l) = true := decide_eq_true (by rw [← q]; exact w8 hi)
   clear q
   repeat' (first | (refine Qr rfl ?_; try intro _ hK; try simp only [go_sem, *]) | refine Qh rfl ?_ | refine Qd rfl (by kernel_rfl) ?_ | (refine Qc rfl rfl ?_ ?_ <;> (intro hb; have hc := hb; try simp only [go_sem] at hc)) | refine q6 rfl ?_ | (refine Qb ?_ ?_; focus kernel_rfl) | ((with_reducible apply And.intro); focus omega) | (refine z8 hK ?_; clear hK; simp only [go_sem, *]) | simp only [z6, z7, go_sem, *])
   all_goals first | contradiction | omega | skip
   (refine ⟨[_], [], [], ⟨rfl, trivial⟩, ?_⟩; simp only [go_sem, *])
  ·have q' : decide (l.getD i default = x) = false := decide_eq_false q
   repeat' (first | (refine Qr rfl ?_; try intro _ hK; try simp only [go_sem, *]) | refine Qh rfl ?_ | refine Qd rfl (by kernel_rfl) ?_ | (refine Qc rfl rfl ?_ ?_ <;> (intro hb; have hc := hb; try simp only [go_sem] at hc)) | refine q6 rfl ?_ | (refine Qb ?_ ?_; focus kernel_rfl) | ((with_reducible apply And.intro); focus omega) | (refine z8 hK ?_; clear hK; simp only [go_sem, *]) | simp only [z6, z7, go_sem, *])
   all_goals first | contradiction | omega | skip
   exact u2 (i' := i + 1) [some 0] [] (by rw [Z8 hi, List.mem_append, List.mem_singleton]; exact fun h => h.elim hP (fun e => q e.symm))
 ·rw [List.take_of_length_le (by omega)] at hP
  have hm : decide (x ∈ l) = false := decide_eq_false hP
  repeat' (first | (refine Qr rfl ?_; try intro _ hK; try simp only [go_sem, *]) | refine Qh rfl ?_ | refine Qd rfl (by kernel_rfl) ?_ | (refine Qc rfl rfl ?_ ?_ <;> (intro hb; have hc := hb; try simp only [go_sem] at hc)) | refine q6 rfl ?_ | (refine Qb ?_ ?_; focus kernel_rfl) | ((with_reducible apply And.intro); focus omega) | (refine z8 hK ?_; clear hK; simp only [go_sem, *]) | simp only [z6, z7, go_sem, *])
  all_goals first | contradiction | omega | skip
  (refine ⟨[_], [], [], ⟨rfl, trivial⟩, ?_⟩; simp only [go_sem, *])
theorem zPC (p : zLo) (h1 : p.length ≤ 1048576) (h2 : ∀ l, l ∈ p → l.length ≤ 1048576) : zLp prog 24 [x7 p] [] (x7 p) [] := by
 refine q8 func24 rfl (fun E hE => ?_); simp only [go_sem, ntmps24]
 repeat' (first | (refine Qr rfl ?_; try intro _ hK; try simp only [go_sem, *]) | refine Qh rfl ?_ | refine Qd rfl (by kernel_rfl) ?_ | (refine Qc rfl rfl ?_ ?_ <;> (intro hb; have hc := hb; try simp only [go_sem] at hc)) | refine q6 rfl ?_ | (refine Qb ?_ ?_; focus kernel_rfl) | ((with_reducible apply And.intro); focus omega) | (refine z8 hK ?_; clear hK; simp only [go_sem, *]) | simp only [z6, z7, go_sem, *])
 refine u3 rfl (p.length) (fun i => NoP i) 25 (fun i => [(4, iV i), (1, .ptr 0 0), (2, .ptr 1 0), (3, .ptr 2 0)]) (fun i => [.box [.list (p.map y7)], .box [zLz], .box [.own 3 1 0 i], .box ((p.take i).map y7)]) [some 0, some 1, some 2, none] [] (by trivial) ?_; intro i hi hP
 by_cases hi2 : i < p.length
 ·have hr := h2 _ (w8 hi2)
  have e := Z8 (l := p) (i := i) hi2
  repeat' (first | (refine Qr rfl ?_; try intro _ hK; try simp only [go_sem, *]) | refine Qh rfl ?_ | refine Qd rfl (by kernel_rfl) ?_ | (refine Qc rfl rfl ?_ ?_ <;> (intro hb; have hc := hb; try simp only [go_sem] at hc)) | refine q6 rfl ?_ | (with_reducible (show (∀ _ : AV, _ → _) ∧ _); refine And.intro ?_ ?_; (focus (intro y hy; first | (obtain ⟨z, _, rfl⟩ := List.mem_map.1 (hy); simp [go_sem]; done) | (obtain ⟨z, _, rfl⟩ := List.mem_map.1 (List.mem_of_mem_take hy); simp [go_sem]; done) | (obtain ⟨z, _, rfl⟩ := List.mem_map.1 (List.mem_of_mem_drop hy); simp [go_sem]; done) | (obtain ⟨z, _, rfl⟩ := List.mem_map.1 (List.mem_of_mem_drop (List.mem_of_mem_take hy)); simp [go_sem]; done)))) | (refine Qb ?_ ?_; focus kernel_rfl) | ((with_reducible apply And.intro); focus omega) | (refine z8 hK ?_; clear hK; simp only [go_sem, *]) | simp only [z6, z7, go_sem, *])
  all_goals first | contradiction | omega | skip
  exact u2 (i' := i + 1) [some 0, some 1, some 2, some 7] [5] (by trivial)
 ·have e : p.take i = p := List.take_of_length_le (by omega)
  repeat' (first | (refine Qr rfl ?_; try intro _ hK; try simp only [go_sem, *]) | refine Qh rfl ?_ | refine Qd rfl (by kernel_rfl) ?_ | (refine Qc rfl rfl ?_ ?_ <;> (intro hb; have hc := hb; try simp only [go_sem] at hc)) | refine q6 rfl ?_ | (refine Qb ?_ ?_; focus kernel_rfl) | ((with_reducible apply And.intro); focus omega) | (refine z8 hK ?_; clear hK; simp only [go_sem, *]) | simp only [z6, z7, go_sem, *])
  all_goals first | contradiction | omega | skip
  refine ⟨[.agg [.own 3 1 0 i]], [], [3], ⟨by simp only [u1, go_sem], trivial⟩, ?_⟩
  simp only [go_sem, *]
  simp
  omega
end Go.Abs

namespace Go.Abs
open Go Go.Proofs Tryz
attribute [local irreducible] y6 Hold x8
def zRw (l : List Move) (h : House) : Option House := (l.find? fun m => decide (m.dst = h)).map Move.src
def zRz : House := ⟨0, zeroPlate⟩
end Go.Abs

namespace Go.Abs
open Go Go.Proofs Tryz
attribute [local irreducible] y6 Hold x8
end Go.Abs

namespace Go.Abs
open Go Go.Proofs Tryz
attribute [local irreducible] y6 Hold x8
end Go.Abs

namespace Go.Abs
open Go Go.Proofs Tryz
attribute [local irreducible] y6 Hold x8
@[go_sem, simp] theorem zRf (H : Nat → AObj) (m : List (Option Nat)) (ex : List Nat) (l : List (List Int)) : XpL H m ex (List.map j4 l) (List.map j4 l) ↔ True := ⟨fun _ => trivial, fun _ => zBA (fun x => by simp only [XpF]) _⟩
@[go_sem, simp] theorem zRh (H : Nat → AObj) (m : List (Option Nat)) (ex : List Nat) (l : List (List Int)) (ys zs : List AV) : XpL H m ex (List.map j4 l ++ [.list ys]) (List.map j4 l ++ [.list zs]) ↔ ys = zs := by
 rw [L0 _ (fun z hz => by
  obtain ⟨t, _, rfl⟩ := List.mem_map.1 hz
  simp only [XpF])]
 simp only [XpF]
@[go_sem, simp] theorem zRg (H : Nat → AObj) (m : List (Option Nat)) (ex : List Nat) (l r : List (List Int)) : XpL H m ex (List.map j4 l ++ List.map j4 r) (List.map j4 l ++ List.map j4 r) ↔ True := ⟨fun _ => trivial, fun _ => by rw [← List.map_append]; exact zBA (fun x => by simp only [XpF]) _⟩
@[reducible] def zR4 (s : Story) : AObj := .box [.list (s.first.map y7), .list (s.steps.map i9), .list (s.facts.map Fact.enc)]
structure RunP (s : Story) (w : List Int) (i : Nat) (t : Truth) (G : Option Truth) : Prop where
 run : zR2 s (w.drop i) t = G
 len : t.ways.length = i
 val : Valid t.fin
theorem RunP.start {s : Story} {w : List Int} (v : Valid s.first) : RunP s w 0 (Y8 s) (zR2 s w (Y8 s)) := ⟨rfl, rfl, v⟩
theorem RunP.fin {s : Story} {w : List Int} {i : Nat} {t : Truth} {G : Option Truth} (h : RunP s w i t G) (hi : w.length ≤ i) : G = some t := by
 have h1 := h.run
 rw [u7 hi] at h1
 exact h1.symm
def zSA (s : Story) (w : List Int) : Prop := w.length = s.steps.length ∧ ∀ j, j < s.steps.length → 0 ≤ w.getD j default ∧ w.getD j default < (s.steps.getD j default).length
end Go.Abs

namespace Go.Abs
open Go Go.Proofs Tryz
attribute [local irreducible] y6 Hold x8
end Go.Abs

namespace Go.Abs
open Go Go.Proofs Tryz
attribute [local irreducible] y6 Hold x8
@[reducible] def zNH (s : Story) : AObj := .box [.list (s.first.map y7), .list (s.steps.map i9), .list (s.facts.map Fact.enc)]
@[reducible] def zR8 (hs : List House) (f : House → List House) : List AV := hs.map fun h => Q3 (f h)
@[go_sem, simp] theorem zRd (H : Nat → AObj) (m : List (Option Nat)) (ex : List Nat) (l : List House) (f : House → List House) : XpL H m ex (List.map (fun h => AV.list (List.map House.enc (f h))) l) (List.map (fun h => AV.list (List.map House.enc (f h))) l) ↔ True := ⟨fun _ => trivial, fun _ => zBA (fun x => by simp only [XpF]) _⟩
@[go_sem, simp] theorem zRl {α : Type} (H : Nat → AObj) (m : List (Option Nat)) (ex : List Nat) (f : α → List AV) (l : List α) (i : Nat) (x y : AV) : XpL H m ex (List.take i (List.map (fun t => AV.list (f t)) l) ++ [x]) (List.take i (List.map (fun t => AV.list (f t)) l) ++ [y]) ↔ XpF H m ex x y := by
 rw [L0 _ (fun z hz => by
  obtain ⟨t, _, rfl⟩ := List.mem_map.1 (List.mem_of_mem_take hz)
  simp only [XpF])]
@[go_sem, simp] theorem zRi {α : Type} (H : Nat → AObj) (m : List (Option Nat)) (ex : List Nat) (f : α → List AV) (l : List α) (x y : AV) : XpL H m ex (List.map (fun t => AV.list (f t)) l ++ [x]) (List.map (fun t => AV.list (f t)) l ++ [y]) ↔ XpF H m ex x y := by
 rw [L0 _ (fun z hz => by
  obtain ⟨t, _, rfl⟩ := List.mem_map.1 hz
  simp only [XpF])]
def zSC (h : House) : List House := [h]
def FaR (s : Story) (T : Truth) (k : Nat) (b : Bool) (A : Bool) : Prop := (b = true ∧ f7 (s.facts.drop k) T = A) ∨ (b = false ∧ A = false)
end Go.Abs

namespace Go.Abs
open Go Go.Proofs Tryz
attribute [local irreducible] y6 Hold x8
def zOj : List Truth → List zLo → List zLo
 | [], acc => acc
 | t :: r, acc => zOj r (if t.fin ∈ acc then acc else acc ++ [t.fin])
def zRo (s : Story) : List zLo := if r9 s = 0 then zOj (r5 s) [] else []
def zRy (s : Story) : List (List Int) := if r9 s = 0 then C4 s else []
end Go.Abs

namespace Go.Abs
open Go Go.Proofs Tryz
attribute [local irreducible] y6 Hold x8
@[reducible] def zSJ (p : zLo) (t : Truth) : AObj := .box [.list (t.ways.map iV), .list (t.fin.map y7), .fmap (w5 p) (w4 p t.now)]
def zSH : List zLo → zLo → Nat → Int
 | [], _, _ => -1
 | x :: r, q, i => if x = q then i else zSH r q (i + 1)
end Go.Abs

namespace Go.Abs
open Go Go.Proofs Tryz
attribute [local irreducible] y6 Hold x8
theorem zQm (s : Story) (h1 : s.first.length ≤ 1048576) (h2 : ∀ l, l ∈ s.first → l.length ≤ 1048576) (h3 : ∀ w, w ∈ s.steps → w.length ≤ 1048576) (h4 : s.steps.length ≤ 1048576) (h5 : s.facts.length ≤ 1048576) : zLp prog 52 [s.enc] [] (.agg [.list (s.first.map y7), .list (s.steps.map i9), .own 0 6 0 s.facts.length]) [.row 6 (s.facts.map Fact.enc)] := by
 have sU := zPC s.first h1 h2
 refine q8 func52 rfl (fun E hE => ?_); simp only [go_sem, ntmps52]
 repeat' (first | (refine Qr rfl ?_; try intro _ hK; try simp only [go_sem, *]) | refine Qh rfl ?_ | refine Qd rfl (by kernel_rfl) ?_ | (refine Qc rfl rfl ?_ ?_ <;> (intro hb; have hc := hb; try simp only [go_sem] at hc)) | refine q6 rfl ?_ | (with_reducible (show (∀ _ : AV, _ → _) ∧ _); refine And.intro ?_ ?_; (focus (intro y hy; first | (obtain ⟨z, _, rfl⟩ := List.mem_map.1 (hy); simp [go_sem]; done) | (obtain ⟨z, _, rfl⟩ := List.mem_map.1 (List.mem_of_mem_take hy); simp [go_sem]; done) | (obtain ⟨z, _, rfl⟩ := List.mem_map.1 (List.mem_of_mem_drop hy); simp [go_sem]; done) | (obtain ⟨z, _, rfl⟩ := List.mem_map.1 (List.mem_of_mem_drop (List.mem_of_mem_take hy)); simp [go_sem]; done)))) | (refine Qb ?_ ?_; focus kernel_rfl) | (refine y4 (sU) ?_; simp only [go_sem, *]) | ((with_reducible apply And.intro); focus omega) | (refine z8 hK ?_; clear hK; simp only [go_sem, *]) | simp only [z6, z7, go_sem, *])
 all_goals try contradiction
 clear sU
 refine u3 rfl (s.steps.length) (fun i => NoP i) 35 (fun i => [(4, iV i), (3, .ptr 2 0), (2, .ptr 1 0), (1, .ptr 0 0)]) (fun i => [zNH s, .box [zLz, zLz, zLz], .box [.list (s.first.map y7), .own 3 1 0 i, .own 4 6 0 s.facts.length], .row 1 ((s.steps.take i).map i9), .row 6 (s.facts.map Fact.enc)]) [some 0, some 1, some 4, none, some 3] [] (by trivial) ?_; intro i hi hP
 by_cases hi : i < s.steps.length
 ·have hi3 : (i : Int) < s.steps.length := by omega
  have hw := h3 _ (w8 hi)
  have e := Z8 (l := s.steps) (i := i) hi
  repeat' (first | (refine Qr rfl ?_; try intro _ hK; try simp only [go_sem, *]) | refine Qh rfl ?_ | refine Qd rfl (by kernel_rfl) ?_ | (refine Qc rfl rfl ?_ ?_ <;> (intro hb; have hc := hb; try simp only [go_sem] at hc)) | refine q6 rfl ?_ | (with_reducible (show (∀ _ : AV, _ → _) ∧ _); refine And.intro ?_ ?_; (focus (intro y hy; first | (obtain ⟨z, _, rfl⟩ := List.mem_map.1 (hy); simp [go_sem]; done) | (obtain ⟨z, _, rfl⟩ := List.mem_map.1 (List.mem_of_mem_take hy); simp [go_sem]; done) | (obtain ⟨z, _, rfl⟩ := List.mem_map.1 (List.mem_of_mem_drop hy); simp [go_sem]; done) | (obtain ⟨z, _, rfl⟩ := List.mem_map.1 (List.mem_of_mem_drop (List.mem_of_mem_take hy)); simp [go_sem]; done)))) | (refine Qb ?_ ?_; focus kernel_rfl) | ((with_reducible apply And.intro); focus omega) | (refine z8 hK ?_; clear hK; simp only [go_sem, *]) | simp only [z6, z7, go_sem, *])
  all_goals try contradiction
  exact u2 (i' := i + 1) [some 0, some 1, some 2, some 8, some 4] [] (by trivial)
 ·have hi3 : ¬ (i : Int) < s.steps.length := by omega
  have e : s.steps.take i = s.steps := List.take_of_length_le (by omega)
  repeat' (first | (refine Qr rfl ?_; try intro _ hK; try simp only [go_sem, *]) | refine Qh rfl ?_ | refine Qd rfl (by kernel_rfl) ?_ | (refine Qc rfl rfl ?_ ?_ <;> (intro hb; have hc := hb; try simp only [go_sem] at hc)) | refine q6 rfl ?_ | (refine Qb ?_ ?_; focus kernel_rfl) | ((with_reducible apply And.intro); focus omega) | (refine z8 hK ?_; clear hK; simp only [go_sem, *]) | simp only [z6, z7, go_sem, *])
  all_goals try contradiction
  refine ⟨[.agg [.list (s.first.map y7), .own 3 1 0 i, .own 4 6 0 s.facts.length]], [some 4], [3], ⟨by simp only [u1, go_sem], trivial⟩, ?_⟩
  simp only [go_sem, *]
  exact (List.take_of_length_le (by simp; omega)).symm
def zNM (s : Story) : Bool := zNT s.first || (decide (20 < s.steps.length) || (decide (20 < s.facts.length) || s.steps.any fun w => decide (20 < w.length)))
end Go.Abs

namespace Go.Abs
open Go Go.Proofs Tryz
attribute [local irreducible] y6 Hold x8
@[reducible] def zR7 (hs : List House) (f : House → List House) : List AV := hs.map fun h => Q3 (f h)
@[go_sem, simp] theorem zRe (H : Nat → AObj) (m : List (Option Nat)) (ex : List Nat) (l : List House) (f : House → List House) : XpL H m ex (List.map (fun h => AV.list (List.map House.enc (f h))) l) (List.map (fun h => AV.list (List.map House.enc (f h))) l) ↔ True := ⟨fun _ => trivial, fun _ => zBA (fun x => by simp only [XpF]) _⟩
@[go_sem, simp] theorem zPb {α : Type} (H : Nat → AObj) (m : List (Option Nat)) (ex : List Nat) (f : α → List AV) (l : List α) (x y : AV) : XpL H m ex (List.map (fun t => AV.list (f t)) l ++ [x]) (List.map (fun t => AV.list (f t)) l ++ [y]) ↔ XpF H m ex x y := by
 rw [L0 _ (fun z hz => by
  obtain ⟨t, _, rfl⟩ := List.mem_map.1 hz
  simp only [XpF])]
@[go_sem, simp] theorem zRk {α : Type} (H : Nat → AObj) (m : List (Option Nat)) (ex : List Nat) (f : α → List AV) (l : List α) : XpL H m ex (List.map (fun t => AV.list (f t)) l) (List.map (fun t => AV.list (f t)) l) ↔ True := ⟨fun _ => trivial, fun _ => zBA (fun x => by simp only [XpF]) _⟩
end Go.Abs

namespace Go.Abs
open Go Go.Proofs Tryz
attribute [local irreducible] y6 Hold x8
def zOS : Code → Code
 | .seq x (.scope c) => .seq x c
 | c => c
def zQB : Code → Bool
 | .seq _ (.scope _) => true
 | _ => false
def zM8 (l : List Truth) (h : House) : Bool := l.all fun t => decide ((t.now h).length = 0)
def zNN (s : Story) : Int := if r9 s = 0 then if r5 s = [] then 11 else 0 else r9 s
def zNI (s : Story) : List House := if r9 s = 0 then if r5 s = [] then [] else (q9 s.first).filter (zM8 (r5 s)) else []
def zNp (l : List Truth) (h : House) (j : Nat) : Prop := ∀ t, t ∈ l.take j → (t.now h).length = 0
end Go.Abs

namespace Go.Abs
open Go Go.Proofs Tryz
attribute [local irreducible] y6 Hold x8
theorem zN2 {s : Story} (h : House) (o : Told s) (hh : h ∈ q9 s.first) : (P0 s h).length ≤ 216 := by
 have h1 := zNs (fun t : Truth => t.now h) 8 (r5 s) (fun t ht => ((zDU o.first) t ht).small o.steps hh)
 have h2 := H0 o.steps (fun w hw => (o.ways w hw).2.1)
 unfold P0
 omega
theorem zOH (s : Story) (h : House) (hst : s.steps.length ≤ 4294967296) (hwl : ∀ w, w ∈ s.steps → w.length ≤ 4294967296) (hfl : s.facts.length ≤ 4294967296) (hpl : s.first.length ≤ 4294967296) :
  zLp prog 58 [s.enc, h.enc] [] (.tup [.list ((zNQ s h).map House.enc), iV (M6 s h)]) [] := by
 unfold zNQ
 by_cases he : M6 s h = 0
 ·obtain ⟨hs, hh, hne⟩ := zOV he
  have o := C2 hs
  have hl := H0 o.steps (fun w hw => (o.ways w hw).2.1)
  have ht := zDU o.first
  have sa := zAr s hs
  have sc := zAo (q9 s.first) h (by have := o.first.count; omega)
  have e0 : decide (h ∈ q9 s.first) = true := by simpa using hh
  rw [e0] at sc
  have hWl := zN2 h o hh
  have ss := zPS (P0 s h) (by omega)
  have hw := o.first.wf
  have hwf := hw _ hh
  have h3 := o.steps
  have hsm : ∀ t, t ∈ r5 s → (t.now h).length ≤ 8 := fun t hm => (ht t hm).small h3 hh
  rw [if_pos he, he]
  unfold zA0
  have hwl : ([] : List House) ++ ((r5 s).drop 0).flatMap (fun t => t.now h) = P0 s h := rfl
  generalize P0 s h = W at *
  generalize r5 s = l at *
  have hl0 : ((l.length : Int) == 0) = false := by
   have : 0 < l.length := List.length_pos_iff.2 hne
   simp; omega
  clear he e0 ht hne hst hfl hpl
  refine q8 func58 rfl (fun E hE => ?_); simp only [go_sem, ntmps58]
  repeat' (first | (refine Qr rfl ?_; try intro _ hK; try simp only [go_sem, *]) | refine Qh rfl ?_ | refine Qd rfl (by kernel_rfl) ?_ | (refine Qc rfl rfl ?_ ?_ <;> (intro hb; have hc := hb; try simp only [go_sem] at hc)) | refine q6 rfl ?_ | (refine Qb ?_ ?_; focus kernel_rfl) | (refine s8 (sa) ?_; simp only [go_sem, *]) | (refine y4 (sc) ?_; simp only [go_sem, *]) | ((with_reducible apply And.intro); focus omega) | (refine z8 hK ?_; clear hK; simp only [go_sem, *]) | simp only [z6, z7, go_sem, *])
  all_goals try contradiction
  clear sa sc hl0
  refine u4 rfl (l.length) (fun i (acc : List House) => acc ++ (l.drop i).flatMap (fun t => t.now h) = W) 46 (fun i acc => [(33, iV i), (32, iV l.length), (31, .list (l.map (Truth.enc s.first))), (9, .own 1 3 0 acc.length), (3, .ptr 0 0)]) (fun i acc => [.box [iV h.street, iV h.plate.number, iV h.plate.letter], .row 3 (acc.map House.enc)]) [some 1, none] [] ([]) (by exact hwl) ?_; intro i acc hi hP
  clear hwl
  have hql := congrArg List.length hP
  simp only [List.length_append] at hql
  by_cases hi2 : i < l.length
  ·have hti := hsm _ (w8 hi2)
   rw [u0 hi2, List.flatMap_cons] at hP
   repeat' (first | (refine Qr rfl ?_; try intro _ hK; try simp only [go_sem, *]) | refine Qh rfl ?_ | refine Qd rfl (by kernel_rfl) ?_ | (refine Qc rfl rfl ?_ ?_ <;> (intro hb; have hc := hb; try simp only [go_sem] at hc)) | refine q6 rfl ?_ | (refine Qb ?_ ?_; focus kernel_rfl) | ((with_reducible apply And.intro); focus omega) | (refine z8 hK ?_; clear hK; simp only [go_sem, *]) | simp only [z6, z7, go_sem, *])
   refine V7 (h := h) (hs := q9 s.first) (F := zLs (l.getD i default).now) hw hwf ?_
   rw [if_pos hh, zLs]
   repeat' (first | (refine Qr rfl ?_; try intro _ hK; try simp only [go_sem, *]) | refine Qh rfl ?_ | refine Qd rfl (by kernel_rfl) ?_ | (refine Qc rfl rfl ?_ ?_ <;> (intro hb; have hc := hb; try simp only [go_sem] at hc)) | refine q6 rfl ?_ | (refine Qb ?_ ?_; focus kernel_rfl) | ((with_reducible apply And.intro); focus omega) | (refine z8 hK ?_; clear hK; simp only [go_sem, *]) | simp only [z6, z7, go_sem, *])
   refine ⟨fun y hy => ?_, fun y hy => ?_, by omega, ?_⟩
   ·obtain ⟨z, _, rfl⟩ := List.mem_map.1 hy
    simp [go_sem]
   ·obtain ⟨z, _, rfl⟩ := List.mem_map.1 hy
    simp [go_sem]
   ·repeat' (first | (refine Qr rfl ?_; try intro _ hK; try simp only [go_sem, *]) | refine Qh rfl ?_ | refine Qd rfl (by kernel_rfl) ?_ | (refine Qc rfl rfl ?_ ?_ <;> (intro hb; have hc := hb; try simp only [go_sem] at hc)) | refine q6 rfl ?_ | (refine Qb ?_ ?_; focus kernel_rfl) | ((with_reducible apply And.intro); focus omega) | (refine z8 hK ?_; clear hK; simp only [go_sem, *]) | simp only [z6, z7, go_sem, *])
    exact w6 (i' := i + 1) [some 0, some 3] [] (acc ++ (l.getD i default).now h) (by rw [← hP]; simp)
  ·rw [u7 (by omega), List.flatMap_nil, List.append_nil] at hP
   subst hP
   clear hql
   repeat' (first | (refine Qr rfl ?_; try intro _ hK; try simp only [go_sem, *]) | refine Qh rfl ?_ | refine Qd rfl (by kernel_rfl) ?_ | (refine Qc rfl rfl ?_ ?_ <;> (intro hb; have hc := hb; try simp only [go_sem] at hc)) | refine q6 rfl ?_ | (refine Qb ?_ ?_; focus kernel_rfl) | ((with_reducible apply And.intro); focus omega) | (refine z8 hK ?_; clear hK; simp only [go_sem, *]) | simp only [z6, z7, go_sem, *])
   (refine o7 (ss) (by simp only [go_sem, *]; done) rfl (by simp only [go_sem]; done) (by simp) (by simp) ?_; simp only [go_sem, v6, *])
   repeat' (first | (refine Qr rfl ?_; try intro _ hK; try simp only [go_sem, *]) | refine Qh rfl ?_ | refine Qd rfl (by kernel_rfl) ?_ | (refine Qc rfl rfl ?_ ?_ <;> (intro hb; have hc := hb; try simp only [go_sem] at hc)) | refine q6 rfl ?_ | (refine Qb ?_ ?_; focus kernel_rfl) | ((with_reducible apply And.intro); focus omega) | (refine z8 hK ?_; clear hK; simp only [go_sem, *]) | simp only [z6, z7, go_sem, *])
   (refine ⟨[_, _], [], [], ⟨rfl, rfl, trivial⟩, ?_⟩; simp only [go_sem, *])
 ·rw [if_neg he]
  by_cases hs : r9 s = 0
  ·have o := C2 hs
   have sa := zAr s hs
   have sc := zAo (q9 s.first) h (by have := o.first.count; omega)
   unfold M6 at he ⊢
   rw [if_pos hs] at he ⊢
   by_cases hh : h ∈ q9 s.first
   ·rw [if_pos hh] at he ⊢
    by_cases ht : r5 s = []
    ·rw [if_pos ht]
     rw [ht] at sa
     rw [decide_eq_true hh] at sc
     clear he hh ht hst hwl hfl hpl
     refine q8 func58 rfl (fun E hE => ?_); simp only [go_sem, ntmps58]
     repeat' (first | (refine Qr rfl ?_; try intro _ hK; try simp only [go_sem, *]) | refine Qh rfl ?_ | refine Qd rfl (by kernel_rfl) ?_ | (refine Qc rfl rfl ?_ ?_ <;> (intro hb; have hc := hb; try simp only [go_sem] at hc)) | refine q6 rfl ?_ | (refine Qb ?_ ?_; focus kernel_rfl) | (refine s8 (sa) ?_; simp only [go_sem, *]) | (refine y4 (sc) ?_; simp only [go_sem, *]) | ((with_reducible apply And.intro); focus omega) | (refine z8 hK ?_; clear hK; simp only [go_sem, *]) | simp only [z6, z7, go_sem, *])
     all_goals try contradiction
     (refine ⟨[_, _], [], [], ⟨rfl, rfl, trivial⟩, ?_⟩; simp only [go_sem, *])
    ·rw [if_neg ht] at he; exact absurd rfl he
   ·rw [if_neg hh]
    rw [decide_eq_false hh] at sc
    clear he hh hst hwl hfl hpl
    refine q8 func58 rfl (fun E hE => ?_); simp only [go_sem, ntmps58]
    repeat' (first | (refine Qr rfl ?_; try intro _ hK; try simp only [go_sem, *]) | refine Qh rfl ?_ | refine Qd rfl (by kernel_rfl) ?_ | (refine Qc rfl rfl ?_ ?_ <;> (intro hb; have hc := hb; try simp only [go_sem] at hc)) | refine q6 rfl ?_ | (refine Qb ?_ ?_; focus kernel_rfl) | (refine s8 (sa) ?_; simp only [go_sem, *]) | (refine y4 (sc) ?_; simp only [go_sem, *]) | ((with_reducible apply And.intro); focus omega) | (refine z8 hK ?_; clear hK; simp only [go_sem, *]) | simp only [z6, z7, go_sem, *])
    all_goals try contradiction
    (refine ⟨[_, _], [], [], ⟨rfl, rfl, trivial⟩, ?_⟩; simp only [go_sem, *])
  ·have sa := zLW s hst hwl hfl hpl hs
   unfold M6
   rw [if_neg hs]
   have e2 : (r9 s != 0) = true := by simpa using hs
   clear hs he hst hwl hfl hpl
   generalize r9 s = k at *
   refine q8 func58 rfl (fun E hE => ?_); simp only [go_sem, ntmps58]
   repeat' (first | (refine Qr rfl ?_; try intro _ hK; try simp only [go_sem, *]) | refine Qh rfl ?_ | refine Qd rfl (by kernel_rfl) ?_ | (refine Qc rfl rfl ?_ ?_ <;> (intro hb; have hc := hb; try simp only [go_sem] at hc)) | refine q6 rfl ?_ | (refine Qb ?_ ?_; focus kernel_rfl) | (refine y4 (sa) ?_; simp only [go_sem, *]) | ((with_reducible apply And.intro); focus omega) | (refine z8 hK ?_; clear hK; simp only [go_sem, *]) | simp only [z6, z7, go_sem, *])
   all_goals try contradiction
   (refine ⟨[_, _], [], [], ⟨rfl, rfl, trivial⟩, ?_⟩; simp only [go_sem, *])
theorem zPJ (s : Story) (h to : House) (hst : s.steps.length ≤ 4294967296) (hwl : ∀ w, w ∈ s.steps → w.length ≤ 4294967296) (hfl : s.facts.length ≤ 4294967296) (hpl : s.first.length ≤ 4294967296) :
  zLp prog 60 [s.enc, h.enc, to.enc] [] (.tup [iV (zNn s h to), iV (M6 s h)]) [] := by
 unfold zNn
 by_cases he : M6 s h = 0
 ·obtain ⟨hs, hh, hne⟩ := zOV he
  have o := C2 hs
  have hl := H0 o.steps (fun w hw => (o.ways w hw).2.1)
  have sa := zAr s hs
  have sc := zAo (q9 s.first) h (by have := o.first.count; omega)
  rw [decide_eq_true hh] at sc
  have hw := o.first.wf
  have hwf := hw _ hh
  have h3 := o.steps
  have sC := fun (t : Truth) (ht : t ∈ r5 s) => zAo (t.now h) to (by have := ((zDU o.first) t ht).small h3 hh; omega)
  rw [if_pos he, he]
  have h0 : 0 + ((r5 s).drop 0).countP (fun t => decide (to ∈ t.now h)) = zNE s h to := by rw [Nat.zero_add]; rfl
  have hvl : zNE s h to ≤ (r5 s).length := List.countP_le_length
  generalize zNE s h to = V at *
  generalize r5 s = l at *
  have hlp : 0 < l.length := List.length_pos_iff.2 hne
  have hl0 : ((l.length : Int) == 0) = false := by simp; omega
  clear he hne hst hwl hfl hpl
  refine q8 func60 rfl (fun E hE => ?_); simp only [go_sem, ntmps60]
  repeat' (first | (refine Qr rfl ?_; try intro _ hK; try simp only [go_sem, *]) | refine Qh rfl ?_ | refine Qd rfl (by kernel_rfl) ?_ | (refine Qc rfl rfl ?_ ?_ <;> (intro hb; have hc := hb; try simp only [go_sem] at hc)) | refine q6 rfl ?_ | (refine Qb ?_ ?_; focus kernel_rfl) | (refine s8 (sa) ?_; simp only [go_sem, *]) | (refine y4 (sc) ?_; simp only [go_sem, *]) | ((with_reducible apply And.intro); focus omega) | (refine z8 hK ?_; clear hK; simp only [go_sem, *]) | simp only [z6, z7, go_sem, *])
  all_goals try contradiction
  clear sa sc hl0
  refine u4 rfl (l.length) (fun i (n : Nat) => n + (l.drop i).countP (fun t => decide (to ∈ t.now h)) = V) 55 (fun i n => [(35, iV i), (34, iV l.length), (33, .list (l.map (Truth.enc s.first))), (11, iV n), (9, .list (l.map (Truth.enc s.first))), (5, .ptr 1 0), (4, .ptr 0 0)]) (fun i n => [.box [iV h.street, iV h.plate.number, iV h.plate.letter], .box [iV to.street, iV to.plate.number, iV to.plate.letter]]) [some 1, some 2] [] (0) (by exact h0) ?_; intro i n hi hP
  clear h0
  by_cases hi : i < l.length
  ·have hi3 : (i : Int) < l.length := by omega
   rw [zEE hi] at hP
   have sC1 := sC _ (w8 hi)
   clear sC
   repeat' (first | (refine Qr rfl ?_; try intro _ hK; try simp only [go_sem, *]) | refine Qh rfl ?_ | refine Qd rfl (by kernel_rfl) ?_ | (refine Qc rfl rfl ?_ ?_ <;> (intro hb; have hc := hb; try simp only [go_sem] at hc)) | refine q6 rfl ?_ | (refine Qb ?_ ?_; focus kernel_rfl) | ((with_reducible apply And.intro); focus omega) | (refine z8 hK ?_; clear hK; simp only [go_sem, *]) | simp only [z6, z7, go_sem, *])
   refine V7 (h := h) (hs := q9 s.first) (F := zLs (l.getD i default).now) hw hwf ?_
   rw [if_pos hh, zLs]
   cases hd : decide (to ∈ (l.getD i default).now h) with
   | true =>
    rw [hd] at sC1 hP
    clear hd
    repeat' (first | (refine Qr rfl ?_; try intro _ hK; try simp only [go_sem, *]) | refine Qh rfl ?_ | refine Qd rfl (by kernel_rfl) ?_ | (refine Qc rfl rfl ?_ ?_ <;> (intro hb; have hc := hb; try simp only [go_sem] at hc)) | refine q6 rfl ?_ | (refine Qb ?_ ?_; focus kernel_rfl) | (refine y4 (sC1) ?_; simp only [go_sem, *]) | ((with_reducible apply And.intro); focus omega) | (refine z8 hK ?_; clear hK; simp only [go_sem, *]) | simp only [z6, z7, go_sem, *])
    all_goals try contradiction
    exact w6 (i' := i + 1) [some 0, some 1] [] (n + 1) (by rw [← hP]; simp; omega)
   | false =>
    rw [hd] at sC1 hP
    clear hd
    repeat' (first | (refine Qr rfl ?_; try intro _ hK; try simp only [go_sem, *]) | refine Qh rfl ?_ | refine Qd rfl (by kernel_rfl) ?_ | (refine Qc rfl rfl ?_ ?_ <;> (intro hb; have hc := hb; try simp only [go_sem] at hc)) | refine q6 rfl ?_ | (refine Qb ?_ ?_; focus kernel_rfl) | (refine y4 (sC1) ?_; simp only [go_sem, *]) | ((with_reducible apply And.intro); focus omega) | (refine z8 hK ?_; clear hK; simp only [go_sem, *]) | simp only [z6, z7, go_sem, *])
    all_goals try contradiction
    exact w6 (i' := i + 1) [some 0, some 1] [] (n) (by rw [← hP]; simp)
  ·have hi3 : ¬ (i : Int) < l.length := by omega
   rw [u7 (by omega)] at hP
   have hn : n = V := by simpa using hP
   subst hn
   clear sC hP
   unfold zNO
   by_cases c : n = 0
   ·have c1 : ((n : Int) == 0) = true := by simpa using c
    rw [if_pos c]
    clear c
    repeat' (first | (refine Qr rfl ?_; try intro _ hK; try simp only [go_sem, *]) | refine Qh rfl ?_ | refine Qd rfl (by kernel_rfl) ?_ | (refine Qc rfl rfl ?_ ?_ <;> (intro hb; have hc := hb; try simp only [go_sem] at hc)) | refine q6 rfl ?_ | (refine Qb ?_ ?_; focus kernel_rfl) | ((with_reducible apply And.intro); focus omega) | (refine z8 hK ?_; clear hK; simp only [go_sem, *]) | simp only [z6, z7, go_sem, *])
    all_goals try contradiction
    (refine ⟨[_, _], [], [], ⟨rfl, rfl, trivial⟩, ?_⟩; simp only [go_sem, *])
   ·have c1 : ((n : Int) == 0) = false := by rw [beq_eq_false_iff_ne]; omega
    rw [if_neg c]
    by_cases d : n = l.length
    ·have d1 : ((n : Int) == (l.length : Int)) = true := by rw [beq_iff_eq]; omega
     rw [if_pos d]
     clear c d
     repeat' (first | (refine Qr rfl ?_; try intro _ hK; try simp only [go_sem, *]) | refine Qh rfl ?_ | refine Qd rfl (by kernel_rfl) ?_ | (refine Qc rfl rfl ?_ ?_ <;> (intro hb; have hc := hb; try simp only [go_sem] at hc)) | refine q6 rfl ?_ | (refine Qb ?_ ?_; focus kernel_rfl) | ((with_reducible apply And.intro); focus omega) | (refine z8 hK ?_; clear hK; simp only [go_sem, *]) | simp only [z6, z7, go_sem, *])
     all_goals try contradiction
     (refine ⟨[_, _], [], [], ⟨rfl, rfl, trivial⟩, ?_⟩; simp only [go_sem, *])
    ·have d1 : ((n : Int) == (l.length : Int)) = false := by rw [beq_eq_false_iff_ne]; omega
     rw [if_neg d]
     clear c d
     repeat' (first | (refine Qr rfl ?_; try intro _ hK; try simp only [go_sem, *]) | refine Qh rfl ?_ | refine Qd rfl (by kernel_rfl) ?_ | (refine Qc rfl rfl ?_ ?_ <;> (intro hb; have hc := hb; try simp only [go_sem] at hc)) | refine q6 rfl ?_ | (refine Qb ?_ ?_; focus kernel_rfl) | ((with_reducible apply And.intro); focus omega) | (refine z8 hK ?_; clear hK; simp only [go_sem, *]) | simp only [z6, z7, go_sem, *])
     all_goals try contradiction
     (refine ⟨[_, _], [], [], ⟨rfl, rfl, trivial⟩, ?_⟩; simp only [go_sem, *])
 ·rw [if_neg he]
  by_cases hs : r9 s = 0
  ·have o := C2 hs
   have sa := zAr s hs
   have sc := zAo (q9 s.first) h (by have := o.first.count; omega)
   unfold M6 at he ⊢
   rw [if_pos hs] at he ⊢
   by_cases hh : h ∈ q9 s.first
   ·rw [if_pos hh] at he ⊢
    by_cases ht : r5 s = []
    ·rw [if_pos ht]
     rw [ht] at sa
     rw [decide_eq_true hh] at sc
     clear he hh ht hst hwl hfl hpl
     refine q8 func60 rfl (fun E hE => ?_); simp only [go_sem, ntmps60]
     repeat' (first | (refine Qr rfl ?_; try intro _ hK; try simp only [go_sem, *]) | refine Qh rfl ?_ | refine Qd rfl (by kernel_rfl) ?_ | (refine Qc rfl rfl ?_ ?_ <;> (intro hb; have hc := hb; try simp only [go_sem] at hc)) | refine q6 rfl ?_ | (refine Qb ?_ ?_; focus kernel_rfl) | (refine s8 (sa) ?_; simp only [go_sem, *]) | (refine y4 (sc) ?_; simp only [go_sem, *]) | ((with_reducible apply And.intro); focus omega) | (refine z8 hK ?_; clear hK; simp only [go_sem, *]) | simp only [z6, z7, go_sem, *])
     all_goals try contradiction
     (refine ⟨[_, _], [], [], ⟨rfl, rfl, trivial⟩, ?_⟩; simp only [go_sem, *])
    ·rw [if_neg ht] at he; exact absurd rfl he
   ·rw [if_neg hh]
    rw [decide_eq_false hh] at sc
    clear he hh hst hwl hfl hpl
    refine q8 func60 rfl (fun E hE => ?_); simp only [go_sem, ntmps60]
    repeat' (first | (refine Qr rfl ?_; try intro _ hK; try simp only [go_sem, *]) | refine Qh rfl ?_ | refine Qd rfl (by kernel_rfl) ?_ | (refine Qc rfl rfl ?_ ?_ <;> (intro hb; have hc := hb; try simp only [go_sem] at hc)) | refine q6 rfl ?_ | (refine Qb ?_ ?_; focus kernel_rfl) | (refine s8 (sa) ?_; simp only [go_sem, *]) | (refine y4 (sc) ?_; simp only [go_sem, *]) | ((with_reducible apply And.intro); focus omega) | (refine z8 hK ?_; clear hK; simp only [go_sem, *]) | simp only [z6, z7, go_sem, *])
    all_goals try contradiction
    (refine ⟨[_, _], [], [], ⟨rfl, rfl, trivial⟩, ?_⟩; simp only [go_sem, *])
  ·have sa := zLW s hst hwl hfl hpl hs
   unfold M6
   rw [if_neg hs]
   have e2 : (r9 s != 0) = true := by simpa using hs
   clear hs he hst hwl hfl hpl
   generalize r9 s = k at *
   refine q8 func60 rfl (fun E hE => ?_); simp only [go_sem, ntmps60]
   repeat' (first | (refine Qr rfl ?_; try intro _ hK; try simp only [go_sem, *]) | refine Qh rfl ?_ | refine Qd rfl (by kernel_rfl) ?_ | (refine Qc rfl rfl ?_ ?_ <;> (intro hb; have hc := hb; try simp only [go_sem] at hc)) | refine q6 rfl ?_ | (refine Qb ?_ ?_; focus kernel_rfl) | (refine y4 (sa) ?_; simp only [go_sem, *]) | ((with_reducible apply And.intro); focus omega) | (refine z8 hK ?_; clear hK; simp only [go_sem, *]) | simp only [z6, z7, go_sem, *])
   all_goals try contradiction
   (refine ⟨[_, _], [], [], ⟨rfl, rfl, trivial⟩, ?_⟩; simp only [go_sem, *])
end Go.Abs

namespace Go.Abs
open Go Go.Proofs Tryz
attribute [local irreducible] y6 Hold x8
theorem zNz {s : Story} (o : Told s) (hne : r5 s ≠ []) {h : House} (hh : h ∈ q9 s.first) : zLp prog 58 [s.enc, h.enc] [] (.tup [.list ((s6 (P0 s h)).map House.enc), iV 0]) [] := by
 have e := zPa o hh hne
 have hb := zNl o
 have q := zOH s h (by have := hb.steps; omega) (fun w hw => by have := hb.ways w hw; omega) (by have := hb.facts; omega) (by have := hb.first.len; omega)
 unfold zNQ at q
 rw [e, if_pos rfl] at q
 exact q
end Go.Abs

namespace Go.Abs
open Go Go.Proofs Tryz
attribute [local irreducible] y6 Hold x8
theorem zPK {s : Story} (o : Told s) (hne : r5 s ≠ []) {h : House} (hh : h ∈ q9 s.first) (z : House) : zLp prog 60 [s.enc, h.enc, z.enc] [] (.tup [iV (zNO (zNE s h z) (r5 s).length), iV 0]) [] := by
 have e := zPa o hh hne
 have hb := zNl o
 have q := zPJ s h z (by have := hb.steps; omega) (fun w hw => by have := hb.ways w hw; omega) (by have := hb.facts; omega) (by have := hb.first.len; omega)
 unfold zNn at q
 rw [e, if_pos rfl] at q
 exact q
theorem zPY {n all : Nat} (h : 0 < all) : zNO n all = if n = all then 1 else if n = 0 then 2 else 3 := by
 unfold zNO
 by_cases h1 : n = all
 ·rw [if_pos h1, if_neg (by omega), if_pos h1]
 ·rw [if_neg h1, if_neg h1]
end Go.Abs

namespace Go.Abs
open Go Go.Proofs Tryz
attribute [local irreducible] y6 Hold x8
theorem zON {G : Program} {E : Env} {b : Code} {Q : Exit → AS → Prop} {σ : AS} (p : List Nat) (h : Hid (Hold G E (sub p b) Q σ)) : Hold G E (sub p b) Q σ := h.out
theorem zRI {x y : List Int} {r l : List (List Int)} (h : (x :: r).Sublist (y :: l)) (e : ¬ y = x) : (x :: r).Sublist l := by
 cases h with
 | cons _ h => exact h
 | cons_cons _ h => exact absurd rfl e
theorem zOE {l : List House} (h : 0 < l.length) (d : Dice) : ∃ j : Nat, toN ((l.length : Int) - 1) d = j ∧ j < l.length := by
 obtain ⟨h1, h2⟩ := Y4 (n := (l.length : Int) - 1) (by omega) d
 exact ⟨(toN ((l.length : Int) - 1) d).toNat, by omega, by omega⟩
structure GoodH (s : Story) (z : House) : Prop where
 lo : 0 ≤ z.street
 hi : z.street < s.first.length
 ok : z.plate.ok = true
theorem zPy (E : Env) (hE : E.n = 0) (s : Story) (hh z : House) (A B : List (List Int)) (W M : List House) (n : Nat)
    (sX : zLp prog 39 [.agg [.list (s.first.map y7), .list (s.steps.map i9), .list ((s.facts ++ [(⟨hh, z⟩ : Fact)]).map Fact.enc)]] [] (.tup [.list (B.map j4), iV 0]) [])
    (sM : B ≠ [] → zLp prog 58 [.agg [.list (s.first.map y7), .list (s.steps.map i9), .list ((s.facts ++ [(⟨hh, z⟩ : Fact)]).map Fact.enc)], hh.enc] [] (.tup [.list (M.map House.enc), iV 0]) [])
    (xl : B.length = n) (vl : n ≤ A.length) (xs : B.Sublist A) (Al : A.length ≤ 1000) (hA : 0 < A.length) (aw : ∀ w, w ∈ A → w.length ≤ 1000) (mz : B ≠ [] → z ∈ M) (mW : B ≠ [] → ∀ x, x ∈ M → x ∈ W) (Ml : M.length ≤ 1000) (Wl : W.length ≤ 1000) (sw : zLp prog 20 [] [] (bV true) []) :
    Hold prog E (sub [1, 1, 1, 1, 1, 1, 1, 1, 1, 1, 1, 1, 1, 1, 1] (B4 Tryz.f13)) (fun e σ' => (e = Exit.normal ∨ e = Exit.ret) ∧ zA8 prog Tryz.f13 0 (bV true) [] σ')
      ⟨225, [(14, .ptr 2 0), (13, iV 0), (12, iV (zNO n A.length)), (11, .ptr 1 0), (9, Q3 W), (8, .ptr 0 0), (6, .list (A.map j4))], zLy 0 [.box [iV hh.street, iV hh.plate.number, iV hh.plate.letter], .box [iV z.street, iV z.plate.number, iV z.plate.letter], .box [.list (s.first.map y7), .list (s.steps.map i9), .list ((s.facts ++ [(⟨hh, z⟩ : Fact)]).map Fact.enc)]]⟩ := by
  have hB : B.length ≤ A.length := by omega
  have h1 : ¬ ((B.length : Nat) : Int) > (A.length : Nat) := by omega
  generalize (s.facts ++ [(⟨hh, z⟩ : Fact)]).map Fact.enc = FX at *
  have hP0 : (B.drop 0).Sublist (A.drop 0) ∧ 0 ≤ A.length := ⟨xs, Nat.zero_le _⟩
  obtain ⟨V, hV⟩ : ∃ V, V = zNO n A.length := ⟨_, rfl⟩
  rw [← hV]
  rw [zPY hA] at hV
  simp only [go_sem]
  have hc : (n = A.length ∧ ((B.length : Int) == 0) = false ∧ ((B.length : Int) == (A.length : Int)) = true ∧ V = 1) ∨ (n = 0 ∧ ((B.length : Int) == 0) = true ∧ ((B.length : Int) == (A.length : Int)) = false ∧ V = 2) ∨ (0 < n ∧ ((B.length : Int) == 0) = false ∧ ((B.length : Int) == (A.length : Int)) = false ∧ V = 3) := by
    by_cases c : n = A.length
    · rw [if_pos c] at hV
      exact .inl ⟨c, by rw [beq_eq_false_iff_ne]; omega, by rw [beq_iff_eq]; omega, hV⟩
    · rw [if_neg c] at hV
      by_cases d : n = 0
      · rw [if_pos d] at hV
        exact .inr (.inl ⟨d, by rw [beq_iff_eq]; omega, by rw [beq_eq_false_iff_ne]; omega, hV⟩)
      · rw [if_neg d] at hV
        exact .inr (.inr ⟨by omega, by rw [beq_eq_false_iff_ne]; omega, by rw [beq_eq_false_iff_ne]; omega, hV⟩)
  clear hV xl vl xs
  rcases hc with ⟨_, c1, c2, rfl⟩ | ⟨_, c1, c2, rfl⟩ | ⟨_, c1, c2, rfl⟩
  case' inl =>
    repeat' (first | (refine Qr rfl ?_; try intro _ hK; try simp only [go_sem, *]) | (refine Qi rfl rfl rfl rfl ?_ ?_ <;> (intro hb; (try intro _ hK); have hc := hb; try simp only [go_sem] at hc; simp only [go_sem, *])) | refine Qh rfl ?_ | refine Qd rfl (by kernel_rfl) ?_ | (refine Qc rfl rfl ?_ ?_ <;> (intro hb; have hc := hb; try simp only [go_sem] at hc)) | refine q6 rfl ?_ | (refine Qb ?_ ?_; focus kernel_rfl) | (refine y4 (sX) ?_; simp only [go_sem, *]) | ((with_reducible apply And.intro); focus omega) | (refine z8 hK ?_; clear hK; simp only [go_sem, *]) | simp only [z6, z7, go_sem, *])
    all_goals try contradiction
  case' inr.inl =>
    repeat' (first | (refine Qr rfl ?_; try intro _ hK; try simp only [go_sem, *]) | (refine Qi rfl rfl rfl rfl ?_ ?_ <;> (intro hb; (try intro _ hK); have hc := hb; try simp only [go_sem] at hc; simp only [go_sem, *])) | refine Qh rfl ?_ | refine Qd rfl (by kernel_rfl) ?_ | (refine Qc rfl rfl ?_ ?_ <;> (intro hb; have hc := hb; try simp only [go_sem] at hc)) | refine q6 rfl ?_ | (refine Qb ?_ ?_; focus kernel_rfl) | (refine y4 (sX) ?_; simp only [go_sem, *]) | ((with_reducible apply And.intro); focus omega) | (refine z8 hK ?_; clear hK; simp only [go_sem, *]) | simp only [z6, z7, go_sem, *])
    all_goals try contradiction
  case' inr.inr =>
    repeat' (first | (refine Qr rfl ?_; try intro _ hK; try simp only [go_sem, *]) | (refine Qi rfl rfl rfl rfl ?_ ?_ <;> (intro hb; (try intro _ hK); have hc := hb; try simp only [go_sem] at hc; simp only [go_sem, *])) | refine Qh rfl ?_ | refine Qd rfl (by kernel_rfl) ?_ | (refine Qc rfl rfl ?_ ?_ <;> (intro hb; have hc := hb; try simp only [go_sem] at hc)) | refine q6 rfl ?_ | (refine Qb ?_ ?_; focus kernel_rfl) | (refine y4 (sX) ?_; simp only [go_sem, *]) | ((with_reducible apply And.intro); focus omega) | (refine z8 hK ?_; clear hK; simp only [go_sem, *]) | simp only [z6, z7, go_sem, *])
    all_goals try contradiction
  all_goals
    clear c1 c2 sX h1
    refine u4 rfl (B.length) (fun k (q : Nat) => (B.drop k).Sublist (A.drop q) ∧ q ≤ A.length) 225 (fun k q => [(18, iV k), (17, iV q), (15, .list (B.map j4)), (14, .ptr 2 0), (11, .ptr 1 0), (9, Q3 W), (8, .ptr 0 0), (6, .list (A.map j4))]) (fun k q => [.box [iV hh.street, iV hh.plate.number, iV hh.plate.letter], .box [iV z.street, iV z.plate.number, iV z.plate.letter], .box [.list (s.first.map y7), .list (s.steps.map i9), .list FX]]) [some 0, some 1, some 2] [] (0) (by exact hP0) ?_; intro k q hk hP
    clear hP0
    obtain ⟨hP, hq⟩ := hP
    by_cases hk : k < B.length
    · have hk3 : (k : Int) < B.length := by omega
      repeat' (first | (refine Qr rfl ?_; try intro _ hK; try simp only [go_sem, *]) | (refine Qi rfl rfl rfl rfl ?_ ?_ <;> (intro hb; (try intro _ hK); have hc := hb; try simp only [go_sem] at hc; simp only [go_sem, *])) | refine Qh rfl ?_ | refine Qd rfl (by kernel_rfl) ?_ | (refine Qc rfl rfl ?_ ?_ <;> (intro hb; have hc := hb; try simp only [go_sem] at hc)) | refine q6 rfl ?_ | (refine Qb ?_ ?_; focus kernel_rfl) | ((with_reducible apply And.intro); focus omega) | (refine z8 hK ?_; clear hK; simp only [go_sem, *]) | simp only [z6, z7, go_sem, *])
      all_goals try contradiction
      refine u4 rfl (A.length - q) (fun j (r : Nat) => r = q + j ∧ (B.drop k).Sublist (A.drop r)) 225 (fun j r => [(17, iV r), (18, iV k), (15, .list (B.map j4)), (14, .ptr 2 0), (11, .ptr 1 0), (9, Q3 W), (8, .ptr 0 0), (6, .list (A.map j4))]) (fun j r => [.box [iV hh.street, iV hh.plate.number, iV hh.plate.letter], .box [iV z.street, iV z.plate.number, iV z.plate.letter], .box [.list (s.first.map y7), .list (s.steps.map i9), .list FX]]) [some 0, some 1, some 2] [] (q) (by exact ⟨rfl, hP⟩) ?_; intro j r hj hR
      clear hP
      obtain ⟨hr, hR⟩ := hR
      have hrA : r < A.length := by
        apply Decidable.of_not_not
        intro hn
        rw [u7 (l := A) (by omega), u0 hk] at hR
        cases hR
      have hr3 : (r : Int) < A.length := by omega
      have hr4 : ((r : Int) == (A.length : Int)) = false := by rw [beq_eq_false_iff_ne]; omega
      have sQ := zHL (A.getD r default) (B.getD k default) (by have := aw _ (w8 hrA); omega)
      have hj2 : j < A.length - q := by omega
      by_cases e : A.getD r default = B.getD k default
      · rw [decide_eq_true e] at sQ
        have hS : (B.drop (k + 1)).Sublist (A.drop r) := by
          rw [u0 hk] at hR
          exact (List.sublist_cons_self _ _).trans hR
        clear hR e hr
        repeat' (first | (refine Qr rfl ?_; try intro _ hK; try simp only [go_sem, *]) | (refine Qi rfl rfl rfl rfl ?_ ?_ <;> (intro hb; (try intro _ hK); have hc := hb; try simp only [go_sem] at hc; simp only [go_sem, *])) | refine Qh rfl ?_ | refine Qd rfl (by kernel_rfl) ?_ | (refine Qc rfl rfl ?_ ?_ <;> (intro hb; have hc := hb; try simp only [go_sem] at hc)) | refine q6 rfl ?_ | (refine Qb ?_ ?_; focus kernel_rfl) | (refine y4 (sQ) ?_; simp only [go_sem, *]) | ((with_reducible apply And.intro); focus omega) | (refine z8 hK ?_; clear hK; simp only [go_sem, *]) | simp only [z6, z7, go_sem, *])
        all_goals try contradiction
        exact w6 (i' := k + 1) [some 0, some 1, some 2] [] (r) (by exact ⟨hS, by omega⟩)
      · rw [decide_eq_false e] at sQ
        have hS : (B.drop k).Sublist (A.drop (r + 1)) := by
          rw [u0 hk, u0 hrA] at hR
          rw [u0 hk]
          exact zRI hR e
        have hr5 : r + 1 ≤ q + (j + 1) ∧ q + (j + 1) ≤ r + 1 := by omega
        clear hR e hr
        repeat' (first | (refine Qr rfl ?_; try intro _ hK; try simp only [go_sem, *]) | (refine Qi rfl rfl rfl rfl ?_ ?_ <;> (intro hb; (try intro _ hK); have hc := hb; try simp only [go_sem] at hc; simp only [go_sem, *])) | refine Qh rfl ?_ | refine Qd rfl (by kernel_rfl) ?_ | (refine Qc rfl rfl ?_ ?_ <;> (intro hb; have hc := hb; try simp only [go_sem] at hc)) | refine q6 rfl ?_ | (refine Qb ?_ ?_; focus kernel_rfl) | (refine y4 (sQ) ?_; simp only [go_sem, *]) | ((with_reducible apply And.intro); focus omega) | (refine z8 hK ?_; clear hK; simp only [go_sem, *]) | simp only [z6, z7, go_sem, *])
        all_goals try contradiction
        exact w6 (i' := j + 1) [some 0, some 1, some 2] [] (r + 1) (by exact ⟨by omega, hS⟩)
    · have hk3 : ¬ (k : Int) < B.length := by omega
      clear hP
      by_cases hB0 : B = []
      · have hb : ¬ ((B.length : Nat) : Int) > 0 := by rw [hB0]; simp
        clear hB0
        repeat' (first | (refine Qr rfl ?_; try intro _ hK; try simp only [go_sem, *]) | (refine Qi rfl rfl rfl rfl ?_ ?_ <;> (intro hb; (try intro _ hK); have hc := hb; try simp only [go_sem] at hc; simp only [go_sem, *])) | refine Qh rfl ?_ | refine Qd rfl (by kernel_rfl) ?_ | (refine Qc rfl rfl ?_ ?_ <;> (intro hb; have hc := hb; try simp only [go_sem] at hc)) | refine q6 rfl ?_ | (refine Qb ?_ ?_; focus kernel_rfl) | (refine y4 (sw) ?_; simp only [go_sem, *]) | ((with_reducible apply And.intro); focus omega) | (refine z8 hK ?_; clear hK; simp only [go_sem, *]) | simp only [z6, z7, go_sem, *])
        all_goals try contradiction
        (refine ⟨[_], [], [], ⟨rfl, trivial⟩, ?_⟩; simp only [go_sem, *])
      · have hb : ((B.length : Nat) : Int) > 0 := by
          have := List.length_pos_iff.2 hB0
          omega
        have sM1 := sM hB0
        have mW1 := mW hB0
        have sZ := zNZ M z (by omega)
        rw [decide_eq_true (mz hB0)] at sZ
        have sH := fun y => zNZ W y (by omega)
        clear sM mW mz hB0
        repeat' (first | (refine Qr rfl ?_; try intro _ hK; try simp only [go_sem, *]) | (refine Qi rfl rfl rfl rfl ?_ ?_ <;> (intro hb; (try intro _ hK); have hc := hb; try simp only [go_sem] at hc; simp only [go_sem, *])) | refine Qh rfl ?_ | refine Qd rfl (by kernel_rfl) ?_ | (refine Qc rfl rfl ?_ ?_ <;> (intro hb; have hc := hb; try simp only [go_sem] at hc)) | refine q6 rfl ?_ | (refine Qb ?_ ?_; focus kernel_rfl) | ((first | refine y4 (sM1) ?_ | refine y4 (sZ) ?_); simp only [go_sem, *]) | ((with_reducible apply And.intro); focus omega) | (refine z8 hK ?_; clear hK; simp only [go_sem, *]) | simp only [z6, z7, go_sem, *])
        all_goals try contradiction
        clear sM1 sZ
        refine u3 rfl (M.length) (fun m => NoP m) 225 (fun m => [(21, iV m), (19, Q3 M), (9, Q3 W)]) (fun m => []) [] [] (by trivial) ?_; intro m hm hS
        by_cases hm : m < M.length
        · have hm3 : (m : Int) < M.length := by omega
          have sH1 := sH (M.getD m default)
          rw [decide_eq_true (mW1 _ (w8 hm))] at sH1
          clear sH
          repeat' (first | (refine Qr rfl ?_; try intro _ hK; try simp only [go_sem, *]) | (refine Qi rfl rfl rfl rfl ?_ ?_ <;> (intro hb; (try intro _ hK); have hc := hb; try simp only [go_sem] at hc; simp only [go_sem, *])) | refine Qh rfl ?_ | refine Qd rfl (by kernel_rfl) ?_ | (refine Qc rfl rfl ?_ ?_ <;> (intro hb; have hc := hb; try simp only [go_sem] at hc)) | refine q6 rfl ?_ | (refine Qb ?_ ?_; focus kernel_rfl) | (refine y4 (sH1) ?_; simp only [go_sem, *]) | ((with_reducible apply And.intro); focus omega) | (refine z8 hK ?_; clear hK; simp only [go_sem, *]) | simp only [z6, z7, go_sem, *])
          all_goals try contradiction
          exact u2 (i' := m + 1) [] [] (by trivial)
        · have hm3 : ¬ (m : Int) < M.length := by omega
          repeat' (first | (refine Qr rfl ?_; try intro _ hK; try simp only [go_sem, *]) | (refine Qi rfl rfl rfl rfl ?_ ?_ <;> (intro hb; (try intro _ hK); have hc := hb; try simp only [go_sem] at hc; simp only [go_sem, *])) | refine Qh rfl ?_ | refine Qd rfl (by kernel_rfl) ?_ | (refine Qc rfl rfl ?_ ?_ <;> (intro hb; have hc := hb; try simp only [go_sem] at hc)) | refine q6 rfl ?_ | (refine Qb ?_ ?_; focus kernel_rfl) | (refine y4 (sw) ?_; simp only [go_sem, *]) | ((with_reducible apply And.intro); focus omega) | (refine z8 hK ?_; clear hK; simp only [go_sem, *]) | simp only [z6, z7, go_sem, *])
          all_goals try contradiction
          (refine ⟨[_], [], [], ⟨rfl, trivial⟩, ?_⟩; simp only [go_sem, *])
end Go.Abs

namespace Go.Abs
open Go Go.Proofs Tryz
attribute [local irreducible] y6 Hold x8
theorem zRs (nums : List Int) (h : nums.length ≤ 4294967296) : zLp prog 13 [j4 nums] [] (bV true) [] := by
  have s1 := zLT nums
  have s2 := zLV (zCU nums) 4 3 2 1 h (by omega) (by omega) (by omega) (by omega)
  have sm := zLf (d := zCU nums) (houses := 4) (steps := 3) (ways := 2) (facts := 1) (by omega) (by omega) (by omega) (by omega)
  have hdl : (R0 (zCU nums) 4 3 2 1).2.list.length ≤ 4294967296 := by rw [zLe]; exact h
  generalize R0 (zCU nums) 4 3 2 1 = S at *
  obtain ⟨s, d1⟩ := S
  simp only at s2 sm hdl
  have o := sm.told
  have v := o.first
  have hct := v.count
  have h3 := o.steps
  have hl := H0 o.steps (fun w hw => (o.ways w hw).2.1)
  have sH := zHU s.first (by have := v.len; omega) (fun l hl => by have := (v.rows l hl).len; omega) (by omega)
  have sT := zHZ s (zLj o)
  have hwl : (C4 s).length = (r5 s).length := by unfold C4; rw [List.length_map]
  have h30 : ¬ (((C4 s).length : Nat) : Int) > 30 := by omega
  have sw := zLc
  by_cases hne : r5 s = []
  · have hw0 : C4 s = [] := by unfold C4; rw [hne]; rfl
    rw [hw0] at sT
    clear hne h30 hwl hw0
    refine q8 func13 rfl (fun E hE => ?_); simp only [go_sem, ntmps13]
    repeat' (first | (refine Qr rfl ?_; try intro _ hK; try simp only [go_sem, *]) | (refine Qi rfl rfl rfl rfl ?_ ?_ <;> (intro hb; (try intro _ hK); have hc := hb; try simp only [go_sem] at hc; simp only [go_sem, *])) | refine Qh rfl ?_ | refine Qd rfl (by kernel_rfl) ?_ | (refine Qc rfl rfl ?_ ?_ <;> (intro hb; have hc := hb; try simp only [go_sem] at hc)) | refine q6 rfl ?_ | (refine Qb ?_ ?_; focus kernel_rfl) | ((first | refine y4 (sT) ?_ | refine y4 (sw) ?_); simp only [go_sem, *]) | (refine s8 (s1) ?_; simp only [go_sem, *]) | (refine Y6 [0] (s2) ?_; simp only [go_sem, *]) | (refine s8 (sH) ?_; simp only [go_sem, *]) | ((with_reducible apply And.intro); focus omega) | (refine z8 hK ?_; clear hK; simp only [go_sem, *]) | simp only [z6, z7, go_sem, *])
    all_goals try contradiction
    (refine ⟨[_], [], [], ⟨rfl, trivial⟩, ?_⟩; simp only [go_sem, *])
  have hlp := List.length_pos_iff.2 hne
  have hl0 : (((C4 s).length : Int) == 0) = false := by rw [beq_eq_false_iff_ne]; omega
  by_cases hHe : q9 s.first = []
  · rw [hHe] at sH
    clear hne hHe hwl
    refine q8 func13 rfl (fun E hE => ?_); simp only [go_sem, ntmps13]
    repeat' (first | (refine Qr rfl ?_; try intro _ hK; try simp only [go_sem, *]) | (refine Qi rfl rfl rfl rfl ?_ ?_ <;> (intro hb; (try intro _ hK); have hc := hb; try simp only [go_sem] at hc; simp only [go_sem, *])) | refine Qh rfl ?_ | refine Qd rfl (by kernel_rfl) ?_ | (refine Qc rfl rfl ?_ ?_ <;> (intro hb; have hc := hb; try simp only [go_sem] at hc)) | refine q6 rfl ?_ | (refine Qb ?_ ?_; focus kernel_rfl) | ((first | refine y4 (sT) ?_ | refine y4 (sw) ?_); simp only [go_sem, *]) | (refine s8 (s1) ?_; simp only [go_sem, *]) | (refine Y6 [0] (s2) ?_; simp only [go_sem, *]) | (refine s8 (sH) ?_; simp only [go_sem, *]) | ((with_reducible apply And.intro); focus omega) | (refine z8 hK ?_; clear hK; simp only [go_sem, *]) | simp only [z6, z7, go_sem, *])
    all_goals try contradiction
    (refine ⟨[_], [], [], ⟨rfl, trivial⟩, ?_⟩; simp only [go_sem, *])
  have hHl := List.length_pos_iff.2 hHe
  have hH0 : (((q9 s.first).length : Int) == 0) = false := by rw [beq_eq_false_iff_ne]; omega
  have hwH : IntKind.i64.wrap (((q9 s.first).length : Int) - 1) = ((q9 s.first).length : Int) - 1 := wrap_i64 (by omega) (by omega)
  have t1 := X9 d1 (((q9 s.first).length : Int) - 1) hdl (by omega)
  obtain ⟨jA, e1, hj1⟩ := zOE hHl d1
  have hd2 : (toD (((q9 s.first).length : Int) - 1) d1).list.length ≤ 4294967296 := by rw [r4]; exact hdl
  rw [e1] at t1
  clear e1
  generalize toD (((q9 s.first).length : Int) - 1) d1 = d2 at *
  have t2 := X9 d2 (((q9 s.first).length : Int) - 1) hd2 (by omega)
  obtain ⟨jB, e2, hj2⟩ := zOE hHl d2
  have hd3 : (toD (((q9 s.first).length : Int) - 1) d2).list.length ≤ 4294967296 := by rw [r4]; exact hd2
  rw [e2] at t2
  clear e2
  generalize toD (((q9 s.first).length : Int) - 1) d2 = d3 at *
  have t3 := X9 d3 2 hd3 (by omega)
  have hd4 : (toD 2 d3).list.length ≤ 4294967296 := by rw [r4]; exact hd3
  generalize toD 2 d3 = d4 at *
  generalize toN 2 d3 = n3 at *
  have hhm := w8 hj1
  generalize hhd : (q9 s.first).getD jA default = hh at *
  have sW := zNz o hne hhm
  have hWs := Nat.le_trans (zNS (P0 s hh)) (zOU sm hhm)
  have hWm : ∀ z, z ∈ s6 (P0 s hh) ↔ z ∈ P0 s hh := fun z => mem_sortH
  have t4 := fun (hW : 0 < (s6 (P0 s hh)).length) => X9 d4 (((s6 (P0 s hh)).length : Int) - 1) hd4 (by omega)
  have pD := fun (hW : 0 < (s6 (P0 s hh)).length) => zOE hW d4
  generalize toD (((s6 (P0 s hh)).length : Int) - 1) d4 = d5 at *
  have hwW : IntKind.i64.wrap (((s6 (P0 s hh)).length : Int) - 1) = ((s6 (P0 s hh)).length : Int) - 1 := wrap_i64 (by omega) (by omega)
  have h60 : ¬ (((s6 (P0 s hh)).length : Nat) : Int) > 60 := by omega
  have hgood : ∃ z, GoodH s z ∧ (((s6 (P0 s hh)).length = 0 ∧ (q9 s.first).getD jB default = z) ∨ (0 < (s6 (P0 s hh)).length ∧ n3 ≤ 0 ∧ (q9 s.first).getD jB default = z) ∨
      (0 < (s6 (P0 s hh)).length ∧ 0 < n3 ∧ ∃ jC : Nat, toN (((s6 (P0 s hh)).length : Int) - 1) d4 = jC ∧ jC < (s6 (P0 s hh)).length ∧ (s6 (P0 s hh)).getD jC default = z)) := by
    have g2 : GoodH s ((q9 s.first).getD jB default) := by
      obtain ⟨m1, m2, m3⟩ := mem_houses.1 (w8 hj2)
      exact ⟨m1, m2, (v.row _).ok _ m3⟩
    by_cases c1 : (s6 (P0 s hh)).length = 0
    · exact ⟨_, g2, .inl ⟨c1, rfl⟩⟩
    · by_cases c2 : n3 ≤ 0
      · exact ⟨_, g2, .inr (.inl ⟨by omega, c2, rfl⟩)⟩
      · obtain ⟨jC, e3, hj3⟩ := pD (by omega)
        obtain ⟨m1, m2, m3⟩ := zRX o hhm ((hWm _).1 (w8 hj3))
        exact ⟨_, ⟨m1, m2, m3⟩, .inr (.inr ⟨by omega, by omega, jC, e3, hj3, rfl⟩)⟩
  obtain ⟨z, gz, hpath⟩ := hgood
  have sV := zPK o hne hhm z
  have hbo := zNl o
  have sU := zQm s hbo.first.len hbo.first.rows hbo.ways hbo.steps hbo.facts
  have hfl : s.facts.length ≤ 1 := by have := sm.facts; omega
  have oX := zRR (f := ⟨hh, z⟩) o (by omega) hhm ⟨gz.lo, gz.hi, gz.ok⟩
  have sX : zLp prog 39 [.agg [.list (s.first.map y7), .list (s.steps.map i9), .list ((s.facts ++ [(⟨hh, z⟩ : Fact)]).map Fact.enc)]] [] (.tup [.list ((C4 (zR1 s ⟨hh, z⟩)).map j4), iV 0]) [] := zHZ (zR1 s ⟨hh, z⟩) (zLj oX)
  have sM : C4 (zR1 s ⟨hh, z⟩) ≠ [] → zLp prog 58 [.agg [.list (s.first.map y7), .list (s.steps.map i9), .list ((s.facts ++ [(⟨hh, z⟩ : Fact)]).map Fact.enc)], hh.enc] [] (.tup [.list ((s6 (P0 (zR1 s ⟨hh, z⟩) hh)).map House.enc), iV 0]) [] := fun hx => zNz oX (fun e => hx (by unfold C4; rw [e]; rfl)) hhm
  have xl : (C4 (zR1 s ⟨hh, z⟩)).length = zNE s hh z := by unfold C4; rw [List.length_map]; exact zRS s hh z
  have xs := zRU s ⟨hh, z⟩
  have bn : C4 (zR1 s ⟨hh, z⟩) ≠ [] → r5 (zR1 s ⟨hh, z⟩) ≠ [] := fun hx e => hx (by unfold C4; rw [e]; rfl)
  have mz : C4 (zR1 s ⟨hh, z⟩) ≠ [] → z ∈ s6 (P0 (zR1 s ⟨hh, z⟩) hh) := fun hx => mem_sortH.2 (zPZ (bn hx)).1
  have mW : C4 (zR1 s ⟨hh, z⟩) ≠ [] → ∀ x, x ∈ s6 (P0 (zR1 s ⟨hh, z⟩) hh) → x ∈ s6 (P0 s hh) := fun hx x hm => mem_sortH.2 ((zPZ (bn hx)).2 x (mem_sortH.1 hm))
  have vl := zPX s hh z
  rw [← hwl] at vl sV
  have hlp2 : 0 < (C4 s).length := by omega
  clear hwl hlp
  have xMl : (s6 (P0 (zR1 s ⟨hh, z⟩) hh)).length ≤ 1000 := by
    have h1 := zN2 hh oX hhm
    have h2 := zNS (P0 (zR1 s ⟨hh, z⟩) hh)
    omega
  have aw : ∀ w, w ∈ C4 s → w.length ≤ 1000 := fun w hw => by
    unfold C4 at hw
    obtain ⟨t, ht, rfl⟩ := List.mem_map.1 hw
    have := (zDU v t ht).steps
    omega
  have zr : ¬ z.street < 0 ∧ ¬ z.street ≥ (s.first.length : Int) ∧ z.plate.ok = true := ⟨by have := gz.lo; omega, by have := gz.hi; omega, gz.ok⟩
  have sPl := zLU z.plate
  rw [zr.2.2] at sPl
  obtain ⟨yr1, yr2, _⟩ := zr
  clear sm o v hhm hne hHe gz hbo oX pD hd2 hd3 hd4 hdl h bn
  generalize s6 (P0 (zR1 s ⟨hh, z⟩) hh) = WX2 at *
  generalize C4 (zR1 s ⟨hh, z⟩) = B at *
  generalize zNE s hh z = VN at *
  generalize P0 s hh = WL at *
  generalize s6 WL = W at *
  generalize C4 s = A at *
  generalize hHd : q9 s.first = H at *
  have ht : ∀ x : AV, List.take (s.facts.length + 1) (List.map Fact.enc s.facts ++ [x]) = List.map Fact.enc s.facts ++ [x] := fun x => List.take_of_length_le (by simp)
  refine q8 func13 rfl (fun E hE => ?_); simp only [go_sem, ntmps13]
  rcases hpath with ⟨c1, ez⟩ | ⟨c1, c2, ez⟩ | ⟨c1, c2, jC, e3, hj3, ez⟩
  case' inl =>
    have c1z : ¬ ((W.length : Int) > 0) := by omega
    clear t4
    repeat' (first | (refine zON [1, 1, 1, 1, 1, 1, 1, 1, 1, 1, 1, 1, 1, 1, 1] ?_) | (refine Qr rfl ?_; try intro _ hK; try simp only [go_sem, *]) | (refine Qi rfl rfl rfl rfl ?_ ?_ <;> (intro hb; (try intro _ hK); have hc := hb; try simp only [go_sem] at hc; simp only [go_sem, *])) | refine Qh rfl ?_ | refine Qd rfl (by kernel_rfl) ?_ | (refine Qc rfl rfl ?_ ?_ <;> (intro hb; have hc := hb; try simp only [go_sem] at hc)) | refine q6 rfl ?_ | (with_reducible (show (∀ _ : AV, _ → _) ∧ _); refine And.intro ?_ ?_; (focus (intro y hy; first | (obtain ⟨z, _, rfl⟩ := List.mem_map.1 (hy); simp [go_sem]; done) | (obtain ⟨z, _, rfl⟩ := List.mem_map.1 (List.mem_of_mem_take hy); simp [go_sem]; done) | (obtain ⟨z, _, rfl⟩ := List.mem_map.1 (List.mem_of_mem_drop hy); simp [go_sem]; done) | (obtain ⟨z, _, rfl⟩ := List.mem_map.1 (List.mem_of_mem_drop (List.mem_of_mem_take hy)); simp [go_sem]; done)))) | (refine Qb ?_ ?_; focus kernel_rfl) | ((first | refine y4 (sT) ?_ | refine y4 (sW) ?_ | refine y4 (sV) ?_); simp only [go_sem, *]) | (refine s8 (s1) ?_; simp only [go_sem, *]) | (refine y9 [0] [] (s2) (by simp) ?_ ?_ (by simp) (.inl rfl) ?_ ?_ ?_; (iterate 2 (focus (simp only [go_sem, *]; done))); (iterate 2 (focus (first | (simp; done) | (simp [go_sem]; done)))); simp only [go_sem, *]) | (refine s8 (sH) ?_; simp only [go_sem, *]) | (refine y9 [0] [] (t1) (by simp) ?_ ?_ (by simp) (.inl rfl) ?_ ?_ ?_; (iterate 2 (focus (simp only [go_sem, *]; done))); (iterate 2 (focus (first | (simp; done) | (simp [go_sem]; done)))); simp only [go_sem, *]) | (refine y9 [0] [] (t2) (by simp) ?_ ?_ (by simp) (.inl rfl) ?_ ?_ ?_; (iterate 2 (focus (simp only [go_sem, *]; done))); (iterate 2 (focus (first | (simp; done) | (simp [go_sem]; done)))); simp only [go_sem, *]) | (refine s8 (sU) ?_; simp only [go_sem, *]) | ((with_reducible apply And.intro); focus omega) | (refine z8 hK ?_; clear hK; simp only [go_sem, *]) | simp only [z6, z7, go_sem, *])
    all_goals try contradiction
  case' inr.inl =>
    have c1z : (W.length : Int) > 0 := by omega
    have c2z : ¬ n3 > 0 := by omega
    clear t4
    repeat' (first | (refine zON [1, 1, 1, 1, 1, 1, 1, 1, 1, 1, 1, 1, 1, 1, 1] ?_) | (refine Qr rfl ?_; try intro _ hK; try simp only [go_sem, *]) | (refine Qi rfl rfl rfl rfl ?_ ?_ <;> (intro hb; (try intro _ hK); have hc := hb; try simp only [go_sem] at hc; simp only [go_sem, *])) | refine Qh rfl ?_ | refine Qd rfl (by kernel_rfl) ?_ | (refine Qc rfl rfl ?_ ?_ <;> (intro hb; have hc := hb; try simp only [go_sem] at hc)) | refine q6 rfl ?_ | (with_reducible (show (∀ _ : AV, _ → _) ∧ _); refine And.intro ?_ ?_; (focus (intro y hy; first | (obtain ⟨z, _, rfl⟩ := List.mem_map.1 (hy); simp [go_sem]; done) | (obtain ⟨z, _, rfl⟩ := List.mem_map.1 (List.mem_of_mem_take hy); simp [go_sem]; done) | (obtain ⟨z, _, rfl⟩ := List.mem_map.1 (List.mem_of_mem_drop hy); simp [go_sem]; done) | (obtain ⟨z, _, rfl⟩ := List.mem_map.1 (List.mem_of_mem_drop (List.mem_of_mem_take hy)); simp [go_sem]; done)))) | (refine Qb ?_ ?_; focus kernel_rfl) | ((first | refine y4 (sT) ?_ | refine y4 (sW) ?_ | refine y4 (sV) ?_); simp only [go_sem, *]) | (refine s8 (s1) ?_; simp only [go_sem, *]) | (refine y9 [0] [] (s2) (by simp) ?_ ?_ (by simp) (.inl rfl) ?_ ?_ ?_; (iterate 2 (focus (simp only [go_sem, *]; done))); (iterate 2 (focus (first | (simp; done) | (simp [go_sem]; done)))); simp only [go_sem, *]) | (refine s8 (sH) ?_; simp only [go_sem, *]) | (refine y9 [0] [] (t1) (by simp) ?_ ?_ (by simp) (.inl rfl) ?_ ?_ ?_; (iterate 2 (focus (simp only [go_sem, *]; done))); (iterate 2 (focus (first | (simp; done) | (simp [go_sem]; done)))); simp only [go_sem, *]) | (refine y9 [0] [] (t2) (by simp) ?_ ?_ (by simp) (.inl rfl) ?_ ?_ ?_; (iterate 2 (focus (simp only [go_sem, *]; done))); (iterate 2 (focus (first | (simp; done) | (simp [go_sem]; done)))); simp only [go_sem, *]) | (refine y9 [0] [] (t3) (by simp) ?_ ?_ (by simp) (.inl rfl) ?_ ?_ ?_; (iterate 2 (focus (simp only [go_sem, *]; done))); (iterate 2 (focus (first | (simp; done) | (simp [go_sem]; done)))); simp only [go_sem, *]) | (refine s8 (sU) ?_; simp only [go_sem, *]) | ((with_reducible apply And.intro); focus omega) | (refine z8 hK ?_; clear hK; simp only [go_sem, *]) | simp only [z6, z7, go_sem, *])
    all_goals try contradiction
  case' inr.inr =>
    have c1z : (W.length : Int) > 0 := by omega
    have c2z : n3 > 0 := by omega
    have t4 := t4 (by omega)
    rw [e3] at t4
    clear e3
    repeat' (first | (refine zON [1, 1, 1, 1, 1, 1, 1, 1, 1, 1, 1, 1, 1, 1, 1] ?_) | (refine Qr rfl ?_; try intro _ hK; try simp only [go_sem, *]) | (refine Qi rfl rfl rfl rfl ?_ ?_ <;> (intro hb; (try intro _ hK); have hc := hb; try simp only [go_sem] at hc; simp only [go_sem, *])) | refine Qh rfl ?_ | refine Qd rfl (by kernel_rfl) ?_ | (refine Qc rfl rfl ?_ ?_ <;> (intro hb; have hc := hb; try simp only [go_sem] at hc)) | refine q6 rfl ?_ | (with_reducible (show (∀ _ : AV, _ → _) ∧ _); refine And.intro ?_ ?_; (focus (intro y hy; first | (obtain ⟨z, _, rfl⟩ := List.mem_map.1 (hy); simp [go_sem]; done) | (obtain ⟨z, _, rfl⟩ := List.mem_map.1 (List.mem_of_mem_take hy); simp [go_sem]; done) | (obtain ⟨z, _, rfl⟩ := List.mem_map.1 (List.mem_of_mem_drop hy); simp [go_sem]; done) | (obtain ⟨z, _, rfl⟩ := List.mem_map.1 (List.mem_of_mem_drop (List.mem_of_mem_take hy)); simp [go_sem]; done)))) | (refine Qb ?_ ?_; focus kernel_rfl) | ((first | refine y4 (sT) ?_ | refine y4 (sW) ?_ | refine y4 (sV) ?_ | refine y4 (sPl) ?_); simp only [go_sem, *]) | (refine s8 (s1) ?_; simp only [go_sem, *]) | (refine y9 [0] [] (s2) (by simp) ?_ ?_ (by simp) (.inl rfl) ?_ ?_ ?_; (iterate 2 (focus (simp only [go_sem, *]; done))); (iterate 2 (focus (first | (simp; done) | (simp [go_sem]; done)))); simp only [go_sem, *]) | (refine s8 (sH) ?_; simp only [go_sem, *]) | (refine y9 [0] [] (t1) (by simp) ?_ ?_ (by simp) (.inl rfl) ?_ ?_ ?_; (iterate 2 (focus (simp only [go_sem, *]; done))); (iterate 2 (focus (first | (simp; done) | (simp [go_sem]; done)))); simp only [go_sem, *]) | (refine y9 [0] [] (t2) (by simp) ?_ ?_ (by simp) (.inl rfl) ?_ ?_ ?_; (iterate 2 (focus (simp only [go_sem, *]; done))); (iterate 2 (focus (first | (simp; done) | (simp [go_sem]; done)))); simp only [go_sem, *]) | (refine y9 [0] [] (t3) (by simp) ?_ ?_ (by simp) (.inl rfl) ?_ ?_ ?_; (iterate 2 (focus (simp only [go_sem, *]; done))); (iterate 2 (focus (first | (simp; done) | (simp [go_sem]; done)))); simp only [go_sem, *]) | (refine y9 [0] [] (t4) (by simp) ?_ ?_ (by simp) (.inl rfl) ?_ ?_ ?_; (iterate 2 (focus (simp only [go_sem, *]; done))); (iterate 2 (focus (first | (simp; done) | (simp [go_sem]; done)))); simp only [go_sem, *]) | (refine s8 (sU) ?_; simp only [go_sem, *]) | ((with_reducible apply And.intro); focus omega) | (refine z8 hK ?_; clear hK; simp only [go_sem, *]) | simp only [z6, z7, go_sem, *])
    all_goals try contradiction
  all_goals
    refine ⟨G9 (N := 225) (env := [(14, .ptr 2 0), (13, iV 0), (12, iV (zNO VN A.length)), (11, .ptr 1 0), (9, Q3 W), (8, .ptr 0 0), (6, .list (A.map j4))]) (As := [.box [iV hh.street, iV hh.plate.number, iV hh.plate.letter], .box [iV z.street, iV z.plate.number, iV z.plate.letter], .box [.list (s.first.map y7), .list (s.steps.map i9), .list ((s.facts ++ [(⟨hh, z⟩ : Fact)]).map Fact.enc)]]) [some 3, some 4, some 6] [8] (by (simp only [Weak, go_sem, List.map_append, List.map_set, *] <;> (try simp (disch := omega) only [t8]) <;> (try simp) <;> (try omega))) ?_⟩
    exact zPy E hE s hh z A B W WX2 VN sX sM xl vl xs (by omega) hlp2 aw mz mW xMl (by omega) sw
end Go.Abs

