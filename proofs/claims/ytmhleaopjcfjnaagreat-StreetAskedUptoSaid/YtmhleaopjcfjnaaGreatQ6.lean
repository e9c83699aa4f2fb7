/-
  WHAT THE PROOF STANDS ON, PART 6: contracts of the program's functions and the logic that they are proved in. No condition.
-/
import Derived.Test.YtmhleaopjcfjnaaGreatQ5
set_option maxRecDepth 100000
set_option maxHeartbeats 4000000
set_option linter.unusedVariables false
set_option linter.unusedSimpArgs false
set_option linter.unusedSectionVars false
namespace Go.Abs
open Go
def zMo (p : zLI) : Nat → Dice → List Change → List Change × Dice
 | 0, d, out => (out, d)
 | n + 1, d, out => zMo p n (N0 d p).2 (out ++ [(N0 d p).1])
def zPz (p : zLI) (ways : Int) (d : Dice) : List Change × Dice := zMo p (u1 1 ways d).toNat (w7 1 ways d) []
def zMm (p : zLI) (ways : Int) : Nat → Dice → List (List Change) → List (List Change) × Dice
 | 0, d, out => (out, d)
 | n + 1, d, out => zMm p ways n (zPz p ways d).2 (out ++ [(zPz p ways d).1])
def zM8 (l : List House) (d : Dice) : House := l.getD (toN ((l.length : Int) - 1) d).toNat default
def zMe (l : List House) (d : Dice) : Dice := toD ((l.length : Int) - 1) d
def zM6 (a b : House) (t : Bool) : Fact := if t = true then ⟨a, a⟩ else ⟨a, b⟩
def zMt (l : List House) (d : Dice) : Fact := zM6 (zM8 l d) (zM8 l (zMe l d)) (Z1 2 (zMe l (zMe l d)))
def zMs (l : List House) (d : Dice) : Dice := u6 2 (zMe l (zMe l d))
def zMi (l : List House) : Nat → Dice → List Fact → List Fact × Dice
 | 0, d, out => (out, d)
 | n + 1, d, out => if l.length = 0 then (out, d) else zMi l n (zMs l d) (out ++ [zMt l d])
def zMw (p : zLI) (steps ways : Int) (d : Dice) : List (List Change) × Dice := zMm p ways (toN steps d).toNat (toD steps d) []
def zMx (p : zLI) (facts : Int) (d : Dice) : List Fact × Dice := zMi (y4 p) (toN facts d).toNat (toD facts d) []
def zNB (p : zLI) (a : List (List Change) × Dice) (facts : Int) : Story × Dice := (⟨p, a.1, (zMx p facts a.2).1⟩, (zMx p facts a.2).2)
def zND (P : zLI × Dice) (steps ways facts : Int) : Story × Dice := zNB P.1 (zMw P.1 steps ways P.2) facts
def zMj (d : Dice) (houses steps ways facts : Int) : Story × Dice := zND (Q8 d houses) steps ways facts
theorem zOD (p : zLI) : ∀ (n : Nat) (d : Dice) (out : List Change), (zMo p n d out).2.list = d.list
 | 0, d, out => rfl
 | n + 1, d, out => by rw [zMo, zOD p n, zI4]
theorem zOC (p : zLI) (w : Int) (d : Dice) : (zPz p w d).2.list = d.list := by unfold zPz; rw [zOD, S5]
theorem zN5 (p : zLI) (w : Int) : ∀ (n : Nat) (d : Dice) (out : List (List Change)), (zMm p w n d out).2.list = d.list
 | 0, d, out => rfl
 | n + 1, d, out => by rw [zMm, zN5 p w n, zOC]
theorem zN7 (p : zLI) (s w : Int) (d : Dice) : (zMw p s w d).2.list = d.list := by unfold zMw; rw [zN5, p8]
theorem zM4 (l : List House) (d : Dice) : (zMe l d).list = d.list := p8 _ _
theorem zNc (l : List House) (d : Dice) : (zMs l d).list = d.list := by unfold zMs; rw [M7, zM4, zM4]
theorem zOU (d : Dice) (p : zLI) (k s : Int) (h : 1 ≤ k ∧ k ≤ 7) : (K9 d p k s).1.kind = k := by
 unfold K9
 split
 ·rename_i e; exact e.symm
 ·split
  ·rename_i e; simp only; split <;> exact e.symm
  ·split <;> rfl
theorem zOV (d : Dice) (p : zLI) : zLL (N0 d p).1.kind 1 7 = true := by
 have h := X0 (lo := 1) (hi := 7) (by omega) d
 unfold N0
 rw [zOU _ _ _ _ h, betw_iff]; exact h
theorem zOE (p : zLI) : ∀ (n : Nat) (d : Dice) (out : List Change), (∀ c, c ∈ out → zLL c.kind 1 7 = true) → (zMo p n d out).1.length = out.length + n ∧ ∀ c, c ∈ (zMo p n d out).1 → zLL c.kind 1 7 = true
 | 0, d, out, h => ⟨rfl, h⟩
 | n + 1, d, out, h => by
  obtain ⟨h1, h2⟩ := zOE p n (N0 d p).2 (out ++ [(N0 d p).1]) (fun c hc => by
   rcases List.mem_append.1 hc with hc | hc
   ·exact h c hc
   ·rw [List.mem_singleton.1 hc]; exact zOV d p)
  rw [zMo]
  exact ⟨by rw [h1]; simp; omega, h2⟩
theorem zPZ (p : zLI) {w : Int} (hw : 1 ≤ w ∧ w ≤ 3) (d : Dice) : 0 < (zPz p w d).1.length ∧ (zPz p w d).1.length ≤ 3 ∧ ((zPz p w d).1.length : Int) ≤ w ∧ j1 (zPz p w d).1 = 0 := by
 have h := X0 (lo := 1) (hi := w) hw.1 d
 obtain ⟨h1, h2⟩ := zOE p (u1 1 w d).toNat (w7 1 w d) [] (by simp)
 simp only [List.length_nil, Nat.zero_add] at h1
 unfold zPz
 rw [zH9, h1]
 exact ⟨by omega, by omega, by omega, h2⟩
theorem zN6 (p : zLI) {w : Int} (hw : 1 ≤ w ∧ w ≤ 3) : ∀ (n : Nat) (d : Dice) (out : List (List Change)), (∀ x, x ∈ out → 0 < x.length ∧ x.length ≤ 3 ∧ (x.length : Int) ≤ w ∧ j1 x = 0) →
  (zMm p w n d out).1.length = out.length + n ∧ ∀ x, x ∈ (zMm p w n d out).1 → 0 < x.length ∧ x.length ≤ 3 ∧ (x.length : Int) ≤ w ∧ j1 x = 0
 | 0, d, out, h => ⟨rfl, h⟩
 | n + 1, d, out, h => by
  obtain ⟨h1, h2⟩ := zN6 p hw n (zPz p w d).2 (out ++ [(zPz p w d).1]) (fun c hc => by
   rcases List.mem_append.1 hc with hc | hc
   ·exact h c hc
   ·rw [List.mem_singleton.1 hc]; exact zPZ p hw d)
  rw [zMm]
  exact ⟨by rw [h1]; simp; omega, h2⟩
theorem zM9 {l : List House} (h : l.length ≠ 0) (d : Dice) : zM8 l d ∈ l := by
 have := zAW (n := (l.length : Int) - 1) (by omega) d
 exact w6 (by omega)
theorem zOZ {l : List House} (h : l.length ≠ 0) (d : Dice) : (zMt l d).src ∈ l ∧ (zMt l d).dst ∈ l := by
 unfold zMt zM6
 split
 ·exact ⟨zM9 h _, zM9 h _⟩
 ·exact ⟨zM9 h _, zM9 h _⟩
theorem zNf (l : List House) : ∀ (n : Nat) (d : Dice) (out : List Fact), (∀ f, f ∈ out → f.src ∈ l ∧ f.dst ∈ l) → (zMi l n d out).1.length ≤ out.length + n ∧ ∀ f, f ∈ (zMi l n d out).1 → f.src ∈ l ∧ f.dst ∈ l
 | 0, d, out, h => ⟨Nat.le_refl _, h⟩
 | n + 1, d, out, h => by
  rw [zMi]
  split
  ·exact ⟨by simp, h⟩
  ·rename_i hl
   obtain ⟨h1, h2⟩ := zNf l n (zMs l d) (out ++ [zMt l d]) (fun c hc => by
    rcases List.mem_append.1 hc with hc | hc
    ·exact h c hc
    ·rw [List.mem_singleton.1 hc]; exact zOZ hl d)
   exact ⟨by simp only [List.length_append, List.length_singleton] at h1; omega, h2⟩
structure Small (s : Story) (steps ways facts : Int) : Prop where
 told : Told s
 steps : (s.steps.length : Int) ≤ steps
 ways : ∀ w, w ∈ s.steps → (w.length : Int) ≤ ways
 facts : (s.facts.length : Int) ≤ facts
 dst : ∀ f, f ∈ s.facts → f.dst ∈ y4 s.first
theorem zNC {d : Dice} {houses steps ways facts : Int} (hh : houses ≤ 8) (hs : 0 ≤ steps ∧ steps ≤ 3) (hw : 1 ≤ ways ∧ ways ≤ 3) (hf : 0 ≤ facts ∧ facts ≤ 4) : Small (zMj d houses steps ways facts).1 steps ways facts := by
 have v := zKX (d := d) hh
 unfold zMj
 generalize Q8 d houses = P at *
 obtain ⟨p, d1⟩ := P
 simp only at v
 have n1 := zAW hs.1 d1
 obtain ⟨a1, a2⟩ := zN6 p hw (toN steps d1).toNat (toD steps d1) [] (by simp)
 unfold zND zNB zMw
 generalize zMm p ways (toN steps d1).toNat (toD steps d1) [] = A at *
 obtain ⟨w, d2⟩ := A
 simp only [List.length_nil, Nat.zero_add] at a1 a2
 have n2 := zAW hf.1 d2
 obtain ⟨b1, b2⟩ := zNf (y4 p) (toN facts d2).toNat (toD facts d2) [] (by simp)
 unfold zMx
 generalize zMi (y4 p) (toN facts d2).toNat (toD facts d2) [] = B at *
 obtain ⟨f, d3⟩ := B
 simp only [List.length_nil, Nat.zero_add] at b1 b2
 refine ⟨⟨v, ?_, fun x hx => ?_, ?_, fun x hx => ?_⟩, ?_, fun x hx => ?_, ?_, fun x hx => (b2 x hx).2⟩
 ·simp only; omega
 ·have := a2 x hx; exact ⟨this.1, this.2.1, this.2.2.2⟩
 ·simp only; omega
 ·obtain ⟨h1, h2⟩ := b2 x hx
  obtain ⟨m1, m2, m3⟩ := mem_houses.1 h2
  refine ⟨h1, betw_iff.2 ⟨m1, by simp only; omega⟩, ?_⟩
  exact (v.row _).ok _ m3
 ·simp only; omega
 ·exact (a2 x hx).2.2.1
 ·simp only; omega
theorem zNH {s : Story} (t : Told s) : r4 s = 0 := by
 have h1 := t.steps
 have h2 := t.facts
 unfold r4
 rw [if_pos ((T8 _).2 t.first), if_neg (by omega)]
 unfold W3
 rw [if_pos (stepsErr_zero.2 t.ways)]
 unfold J2
 rw [if_neg (by omega)]
 exact factsErr_zero.2 t.fact
end Go.Abs

namespace Go.Abs
open Go
@[reducible] def Truth.encR (p : zLI) (t : Truth) : AV := .agg [.list (t.ways.map iV), .list (t.fin.map y6), .list ((y4 p).map fun h => r8 (t.now h))]
attribute [go_sem] Truth.encR
def zMa (s : Story) : Nat → Truth → List Truth
 | 0, t => [t]
 | n + 1, t => (List.range' 0 (s7 s t.ways.length).length).flatMap fun i => if can t.fin ((s7 s t.ways.length).getD i default) = 0 then zMa s n (j7 t ((s7 s t.ways.length).getD i default) i) else []
def zMd (s : Story) (n : Nat) (t : Truth) (i : Nat) : List Truth :=
 (List.range' i ((s7 s t.ways.length).length - i)).flatMap fun i => if can t.fin ((s7 s t.ways.length).getD i default) = 0 then zMa s n (j7 t ((s7 s t.ways.length).getD i default) i) else []
theorem zNk {s : Story} : ∀ (n : Nat) (t : Truth), (zMa s n t).filter (Q0 s.facts) = p4 s n t
 | 0, t => by
  rw [zMa, C4]
  by_cases h : Q0 s.facts t = true
  ·rw [if_pos h, List.filter_cons_of_pos h]; rfl
  ·rw [if_neg h, List.filter_cons_of_neg h]; rfl
 | n + 1, t => by
  rw [zMa, p4, D3]
  refine D7 (fun i _ => ?_)
  split
  ·exact zNk n _
  ·rfl
def zMq (s : Story) : List Truth := zMa s s.steps.length (Y9 s)
theorem zNK (s : Story) : (zMq s).filter (Q0 s.facts) = t8 s := zNk _ _
def zPx (m : List Move) (l : List House) : List House := (m.filter fun x => decide (x.src ∈ l)).map Move.dst
end Go.Abs

namespace Go.Abs
open Go
def suf (s : Story) : Nat → Nat → List (List Int)
 | 0, _ => [[]]
 | n + 1, k => (List.range' 0 (s7 s k).length).flatMap fun (i : Nat) => (suf s n (k + 1)).map fun r => (i : Int) :: r
def zPu (s : Story) (n k i : Nat) : List (List Int) := (List.range' i ((s7 s k).length - i)).flatMap fun (i : Nat) => (suf s n (k + 1)).map fun r => (i : Int) :: r
theorem zNi {α β : Type} {f : α → List β} {N : Nat} : ∀ {l : List α}, (∀ a, a ∈ l → (f a).length ≤ N) → (l.flatMap f).length ≤ l.length * N
 | [], _ => by simp
 | a :: r, h => by
  have h1 := h a (by simp)
  have h2 := zNi (l := r) (fun b hb => h b (by simp [hb]))
  rw [List.flatMap_cons, List.length_append, List.length_cons, Nat.succ_mul]; omega
theorem zNR {s : Story} : ∀ n k w, w ∈ suf s n k → w.length = n ∧ ∀ j, j < n → 0 ≤ w.getD j 0 ∧ w.getD j 0 < (s7 s (k + j)).length
 | 0, k, w, h => by
  rw [suf] at h
  rw [List.mem_singleton.1 h]
  exact ⟨rfl, fun j hj => by omega⟩
 | n + 1, k, w, h => by
  rw [suf] at h
  obtain ⟨i, hi, h⟩ := List.mem_flatMap.1 h
  obtain ⟨r, hr, rfl⟩ := List.mem_map.1 h
  obtain ⟨h1, h2⟩ := zNR n (k + 1) r hr
  have hi2 := List.mem_range'.1 hi
  obtain ⟨z, hz, rfl⟩ := hi2
  refine ⟨by simp [h1], fun j hj => ?_⟩
  cases j with
  | zero => simp; omega
  | succ j =>
   have := h2 j (by omega)
   rw [show k + (j + 1) = k + 1 + j by omega]
   simpa using this
def zP3 (s : Story) (t : Truth) (i : Int) : Change := (s7 s t.ways.length).getD i.toNat default
def zPy (s : Story) : List Int → Truth → Option Truth
 | [], t => some t
 | i :: r, t => if can t.fin (zP3 s t i) = 0 then zPy s r (j7 t (zP3 s t i) i.toNat) else none
theorem zNu {s : Story} {i : Int} {r : List Int} {t : Truth} (h : can t.fin (zP3 s t i) = 0) : zPy s (i :: r) t = zPy s r (j7 t (zP3 s t i) i.toNat) := by rw [zPy, if_pos h]
theorem zNt {s : Story} {i : Int} {r : List Int} {t : Truth} (h : ¬ can t.fin (zP3 s t i) = 0) : zPy s (i :: r) t = none := by rw [zPy, if_neg h]
theorem zN4 (t : Truth) (c : Change) (i : Nat) : (j7 t c i).ways.length = t.ways.length + 1 := by simp [j7]
theorem zNm {s : Story} : ∀ (n : Nat) (t : Truth), zMa s n t = (suf s n t.ways.length).filterMap fun w => zPy s w t
 | 0, t => by simp [zMa, suf, zPy]
 | n + 1, t => by
  rw [zMa, suf]
  generalize List.range' 0 (s7 s t.ways.length).length = L
  induction L with
  | nil => rfl
  | cons i r ih =>
   rw [List.flatMap_cons, List.flatMap_cons, List.filterMap_append, ih]
   congr 1
   rw [List.filterMap_map]
   have hc : zP3 s t (i : Int) = (s7 s t.ways.length).getD i default := rfl
   split
   ·rename_i h
    rw [zNm n, zN4]
    refine congrFun (congrArg _ (funext fun w => ?_)) _
    exact (zNu (i := (i : Int)) (r := w) (t := t) (by rw [hc]; exact h)).symm
   ·rename_i h
    symm
    rw [List.filterMap_eq_nil_iff]
    intro w _
    exact zNt (i := (i : Int)) (r := w) (t := t) (by rw [hc]; exact h)
theorem zNv {s : Story} : ∀ {w : List Int} {t x : Truth}, (∀ i, i ∈ w → 0 ≤ i) → zPy s w t = some x → x.ways = t.ways ++ w
 | [], t, x, _, h => by
  rw [zPy] at h
  cases h; simp
 | i :: r, t, x, hw, h => by
  rw [zPy] at h
  split at h
  ·have e := zNv (fun j hj => hw j (by simp [hj])) h
   have hi := hw i (by simp)
   rw [e]
   simp only [j7, List.append_assoc, List.singleton_append]
   rw [Int.toNat_of_nonneg hi]
  ·cases h
def zPn (s : Story) (w : List Int) : Bool := match zPy s w (Y9 s) with
 | some t => Q0 s.facts t
 | none => false
def zNZ (s : Story) : List (List Int) := suf s s.steps.length 0
theorem zOo {s : Story} {n k : Nat} {w : List Int} (h : w ∈ suf s n k) : ∀ i, i ∈ w → 0 ≤ i := fun i hi => by
 obtain ⟨h1, h2⟩ := zNR n k w h
 obtain ⟨j, hj, rfl⟩ := List.getElem_of_mem hi
 have := (h2 j (by omega)).1
 simpa [List.getD, hj] using this
theorem zOB {s : Story} {t : Truth} (h : t ∈ t8 s) : t.ways ∈ zNZ s ∧ zPy s t.ways (Y9 s) = some t := by
 rw [← zNK] at h
 have h1 := (List.mem_filter.1 h).1
 unfold zMq at h1
 rw [zNm] at h1
 obtain ⟨w, hw, e⟩ := List.mem_filterMap.1 h1
 have ew := zNv (zOo hw) e
 have ew2 : t.ways = w := by rw [ew]; rfl
 rw [ew2]
 exact ⟨hw, e⟩
end Go.Abs

namespace Go.Abs
open Go
def zMf : List Nat → Nat → Int → Nat → Int × Nat
 | [], _, b, m => (b, m)
 | x :: r, i, b, m => if x < m then zMf r (i + 1) i x else zMf r (i + 1) b m
theorem zOL {g : List Nat} {i m : Nat} {b : Int} (h : i < g.length) (e : g.getD i default < m) : zMf (g.drop i) i b m = zMf (g.drop (i + 1)) (i + 1) i (g.getD i default) := by rw [v3 h, zMf, if_pos e]
theorem zOK {g : List Nat} {i m : Nat} {b : Int} (h : i < g.length) (e : ¬ g.getD i default < m) : zMf (g.drop i) i b m = zMf (g.drop (i + 1)) (i + 1) b m := by rw [v3 h, zMf, if_neg e]
def BeR (g : List Nat) (n : Nat) (a b : Int) (m : Nat) : Prop := (b = -1 ∧ m = n ∧ (a < 0 ∨ n ≤ g.getD a.toNat 0)) ∨ (0 ≤ a ∧ b = a ∧ m = g.getD a.toNat 0 ∧ m < n)
theorem zNW (g : List Nat) (n : Nat) : ∀ (r : List Nat) (i : Nat) (a b : Int) (m : Nat), g.drop i = r → BeR g n a b m → BeR g n (a7 g r i a) (zMf r i b m).1 (zMf r i b m).2
  | [], i, a, b, m, _, h => by rw [a7, zMf]; exact h
  | x :: r, i, a, b, m, hr, h => by
    have hi : i < g.length := by
      by_cases q : i < g.length
      · exact q
      · rw [v4 (by omega)] at hr; cases hr
    have hd := v3 hi
    rw [hr] at hd
    injection hd with hx hr2
    have hgx : g.getD i 0 = x := by
      rw [hx]; rfl
    rw [a7, zMf]
    have go := zNW g n r (i + 1)
    rcases h with ⟨rfl, rfl, h⟩ | ⟨h0, rfl, rfl, h⟩
    · by_cases c : x < m
      · have c1 : a < 0 ∨ x < g.getD a.toNat 0 := by
          rcases h with h | h
          · exact .inl h
          · exact .inr (by omega)
        rw [if_pos c1, if_pos c]
        exact go _ _ _ hr2.symm (.inr ⟨by omega, rfl, by rw [Int.toNat_natCast, hgx], c⟩)
      · rw [if_neg c]
        by_cases c1 : a < 0 ∨ x < g.getD a.toNat 0
        · rw [if_pos c1]
          exact go _ _ _ hr2.symm (.inl ⟨rfl, rfl, .inr (by rw [Int.toNat_natCast, hgx]; omega)⟩)
        · rw [if_neg c1]
          exact go _ _ _ hr2.symm (.inl ⟨rfl, rfl, h⟩)
    · by_cases c : x < g.getD b.toNat 0
      · rw [if_pos (.inr c), if_pos c]
        exact go _ _ _ hr2.symm (.inr ⟨by omega, rfl, by rw [Int.toNat_natCast, hgx], by omega⟩)
      · rw [if_neg (by rintro (c1 | c1)
                       · omega
                       · exact c c1), if_neg c]
        exact go _ _ _ hr2.symm (.inr ⟨h0, rfl, rfl, h⟩)
theorem zOM (s : Story) (b : Int) (m : Nat) (e : zMf (V3 s) 0 (-1) (t8 s).length = (b, m)) :
  (b = -1 ∧ K6 s = none) ∨ (0 ≤ b ∧ b.toNat < (y4 s.first).length ∧ K6 s = some ((y4 s.first).getD b.toNat default, m)) := by
 have h := zNW (V3 s) (t8 s).length (V3 s) 0 (-1) (-1) (t8 s).length rfl (.inl ⟨rfl, rfl, .inl (by decide)⟩)
 rw [e] at h
 have hle : a7 (V3 s) (V3 s) 0 (-1) = i9 (V3 s) := rfl
 rw [hle] at h
 unfold K6
 have hg : ∀ k, (V3 s).getD k 0 ≤ (t8 s).length := fun k => by
  by_cases q : k < (V3 s).length
  ·have hm : (V3 s).getD k 0 ∈ V3 s := by simp [List.getD, q]
   generalize (V3 s).getD k 0 = z at *
   unfold V3 at hm
   obtain ⟨y, _, rfl⟩ := List.mem_map.1 hm
   exact zBK _ _
  ·simp [List.getD, q]
 rcases h with ⟨h1, h2, h3⟩ | ⟨h0, h1, h2, h3⟩
 ·left
  refine ⟨h1, if_pos ?_⟩
  rcases h3 with h3 | h3
  ·exact .inr (.inl h3)
  ·exact .inr (.inr (Nat.le_antisymm (hg _) h3))
 ·right
  simp only at h1 h2 h3
  have hlt : (i9 (V3 s)).toNat < (y4 s.first).length := by
   by_cases q : (i9 (V3 s)).toNat < (y4 s.first).length
   ·exact q
   ·exfalso
    by_cases q0 : 0 < (V3 s).length
    ·have := zFU q0
     have e2 : (V3 s).length = (y4 s.first).length := by simp [V3]
     omega
    ·have e3 : V3 s = [] := List.eq_nil_of_length_eq_zero (by omega)
     rw [e3] at h0
     exact absurd h0 (by decide)
  rw [h1]
  refine ⟨h0, hlt, ?_⟩
  rw [if_neg (by rintro (c | c | c) <;> omega), h2]
end Go.Abs

namespace Go.Abs
open Go Go.Proofs Tryz
attribute [local irreducible] z3 Hold q7
theorem zNr {h : House} {hs : List House} {F : House → AV} {o : Nat} {H : Nat → AObj} {K : Cont} (ho : H o = .mapo (hs.map House.key) (hs.map F)) (hw : ∀ k, k ∈ hs → k.Wf) (hh : h.Wf)
  (hk : K (.tup [if h ∈ hs then F h else .list [], bV (decide (h ∈ hs))]) [o] []) : Q3 prog 121 (.mp o) h.enc true H K := by
 obtain ⟨et, h1, h2⟩ := A5
 unfold Q3
 rw [h1, B5]
 simp only [h2, ho]
 refine ⟨B6, R0 h hh, by simp [Value.cells, Value.oneCell'], fun q hq => ?_, ?_⟩
 ·obtain ⟨k, hk, rfl⟩ := List.mem_map.1 hq; exact R0 k (hw k hk)
 ·rw [zFa, zJl]; simpa [zAV] using hk
theorem zO4 (p : zLI) (c : Change) (h : House) (hp : p.length ≤ 4294967296) (hwf : h.Wf) :
  zLJ prog 36 [y5 p, c.enc, h.enc] [] (.tup [.list ((zIu p c h).map House.enc), iV (zDG p c h)]) [] := by
 obtain ⟨s1, s2⟩ := zHP p c hp
 by_cases e : r9 p c = 0
 ·have s := s2 e
  have hc : check p = 0 := by
   unfold r9 at e
   split at e <;> assumption
  have v := (T8 p).1 hc
  have hcan : can p c = 0 := by unfold r9 at e; rw [if_pos hc] at e; exact e
  have f := Fit.of_can hcan
  have hw := v.wf
  clear s1 s2
  by_cases hm : h ∈ y4 p
  ·have e1 : zDG p c h = 0 := by unfold zDG; rw [if_pos e, if_pos hm]
   have e2 : zIu p c h = w8 (mv p c h) := by unfold zIu; rw [if_pos e1]
   have ss := zCY (mv p c h) (zBw f hm) (by have := A6 f h; omega)
   rw [e1, e2]
   clear e e1 e2
   have hd : decide (h ∈ y4 p) = true := by simpa using hm
   refine y3 func36 rfl (fun E hE => ?_); simp only [go_sem, ntmps36]
   repeat' (first | (show z3 ..; first | (refine Qr rfl ?_; try intro _ hK; try simp only [go_sem, *])) | (show Hold ..; first | refine Qh rfl ?_ | (refine z7 rfl ⟨_, rfl, fun hb => ?_, fun hb => ?_⟩ <;> (have hc := hb; try simp only [go_sem] at hc)) | refine z8 rfl ?_) | (show q7 ..; first | (refine v5 (s) ?_ ?_ ?_ ?_; (focus (simp only [go_sem, *]; done)); (focus (first | (simp; done) | (simp [go_sem]; done))); (focus (first | (simp; done) | (simp [go_sem]; done))); simp only [go_sem, *])) | ((with_reducible refine And.intro ?_ ?_); focus omega) | (refine z6 hK ?_; clear hK; simp only [go_sem, *]) | (simp only [z5, z4, go_sem, *]))
   all_goals try contradiction
   refine zNr (h := h) (hs := y4 p) (F := zLN (mv p c)) (by simp only [go_sem]) hw hwf ?_
   rw [if_pos hm, zLN, hd]
   repeat' (first | (show z3 ..; first | (refine Qr rfl ?_; try intro _ hK; try simp only [go_sem, *])) | (show Hold ..; first | refine Qh rfl ?_ | (refine z7 rfl ⟨_, rfl, fun hb => ?_, fun hb => ?_⟩ <;> (have hc := hb; try simp only [go_sem] at hc)) | refine z8 rfl ?_) | (show q7 ..; first | (refine q8 (ss) ?_ ?_; (focus (simp only [go_sem, *]; done)); simp only [go_sem, *])) | ((with_reducible refine And.intro ?_ ?_); focus omega) | (refine z6 hK ?_; clear hK; simp only [go_sem, *]) | (simp only [z5, z4, go_sem, *]))
   all_goals try contradiction
   (refine ⟨[_, _], [], [], ⟨rfl, rfl, trivial⟩, ?_⟩; simp only [go_sem, *])
  ·have e1 : zDG p c h = 3 := by unfold zDG; rw [if_pos e, if_neg hm]
   have e2 : zIu p c h = [] := by unfold zIu; rw [e1]; rfl
   rw [e1, e2]
   clear e e1 e2
   have hd : decide (h ∈ y4 p) = false := by simpa using hm
   refine y3 func36 rfl (fun E hE => ?_); simp only [go_sem, ntmps36]
   repeat' (first | (show z3 ..; first | (refine Qr rfl ?_; try intro _ hK; try simp only [go_sem, *])) | (show Hold ..; first | refine Qh rfl ?_ | (refine z7 rfl ⟨_, rfl, fun hb => ?_, fun hb => ?_⟩ <;> (have hc := hb; try simp only [go_sem] at hc)) | refine z8 rfl ?_) | (show q7 ..; first | (refine v5 (s) ?_ ?_ ?_ ?_; (focus (simp only [go_sem, *]; done)); (focus (first | (simp; done) | (simp [go_sem]; done))); (focus (first | (simp; done) | (simp [go_sem]; done))); simp only [go_sem, *])) | ((with_reducible refine And.intro ?_ ?_); focus omega) | (refine z6 hK ?_; clear hK; simp only [go_sem, *]) | (simp only [z5, z4, go_sem, *]))
   all_goals try contradiction
   refine zNr (h := h) (hs := y4 p) (F := zLN (mv p c)) (by simp only [go_sem]) hw hwf ?_
   rw [if_neg hm, hd]
   repeat' (first | (show z3 ..; first | (refine Qr rfl ?_; try intro _ hK; try simp only [go_sem, *])) | (show Hold ..; first | refine Qh rfl ?_ | (refine z7 rfl ⟨_, rfl, fun hb => ?_, fun hb => ?_⟩ <;> (have hc := hb; try simp only [go_sem] at hc)) | refine z8 rfl ?_) | ((with_reducible refine And.intro ?_ ?_); focus omega) | (refine z6 hK ?_; clear hK; simp only [go_sem, *]) | (simp only [z5, z4, go_sem, *]))
   all_goals try contradiction
   (refine ⟨[_, _], [], [], ⟨rfl, rfl, trivial⟩, ?_⟩; simp only [go_sem, *])
 ·have s := s1 e
  have e1 : zDG p c h = r9 p c := by unfold zDG; rw [if_neg e]
  have e2 : zIu p c h = [] := by unfold zIu; rw [e1, if_neg e]
  have e3 : (r9 p c == 0) = false := by rw [beq_eq_false_iff_ne]; exact e
  rw [e1, e2]
  clear s1 s2 e1 e2
  generalize r9 p c = er at *
  refine y3 func36 rfl (fun E hE => ?_); simp only [go_sem, ntmps36]
  repeat' (first | (show z3 ..; first | (refine Qr rfl ?_; try intro _ hK; try simp only [go_sem, *])) | (show Hold ..; first | refine Qh rfl ?_ | (refine z7 rfl ⟨_, rfl, fun hb => ?_, fun hb => ?_⟩ <;> (have hc := hb; try simp only [go_sem] at hc)) | refine z8 rfl ?_) | (show q7 ..; first | (refine q8 (s) ?_ ?_; (focus (simp only [go_sem, *]; done)); simp only [go_sem, *])) | ((with_reducible refine And.intro ?_ ?_); focus omega) | (refine z6 hK ?_; clear hK; simp only [go_sem, *]) | (simp only [z5, z4, go_sem, *]))
  all_goals try contradiction
  (refine ⟨[_, _], [], [], ⟨rfl, rfl, trivial⟩, ?_⟩; simp only [go_sem, *])
end Go.Abs

namespace Go.Abs
open Go Go.Proofs Tryz
attribute [local irreducible] z3 Hold q7
def SsP (p : zLI) (ways : Int) (k : Nat) (dd : Dice) (acc : List (List Change)) (R : List (List Change) × Dice) : Prop := zMm p ways k dd acc = R ∧ dd.list.length ≤ 4294967296 ∧ acc.length + k ≤ 3
theorem SsP.next {p : zLI} {ways : Int} {dd : Dice} {k : Nat} {acc : List (List Change)} {R : List (List Change) × Dice} (h : SsP p ways (k + 1) dd acc R) : SsP p ways k (zPz p ways dd).2 (acc ++ [(zPz p ways dd).1]) R := by
 obtain ⟨h1, h2, h3⟩ := h
 exact ⟨h1, by rw [zOC]; exact h2, by simp; omega⟩
def WsP (p : zLI) (k : Nat) (dd : Dice) (acc : List Change) (R : List Change × Dice) : Prop := zMo p k dd acc = R ∧ dd.list.length ≤ 4294967296 ∧ acc.length + k ≤ 3
theorem WsP.next {p : zLI} {dd : Dice} {k : Nat} {acc : List Change} {R : List Change × Dice} (h : WsP p (k + 1) dd acc R) : WsP p k (N0 dd p).2 (acc ++ [(N0 dd p).1]) R := by
 obtain ⟨h1, h2, h3⟩ := h
 exact ⟨h1, by rw [zI4]; exact h2, by simp; omega⟩
def FsP (l : List House) (k : Nat) (dd : Dice) (acc : List Fact) (R : List Fact × Dice) : Prop := zMi l k dd acc = R ∧ dd.list.length ≤ 4294967296 ∧ acc.length + k ≤ 4
theorem FsP.next {l : List House} {dd : Dice} {k : Nat} {acc : List Fact} {R : List Fact × Dice} (hl : l.length ≠ 0) (h : FsP l (k + 1) dd acc R) : FsP l k (zMs l dd) (acc ++ [zMt l dd]) R := by
 obtain ⟨h1, h2, h3⟩ := h
 rw [zMi, if_neg hl] at h1
 exact ⟨h1, by rw [zNc]; exact h2, by simp; omega⟩
theorem zNA (d : Dice) (houses steps ways facts : Int) (h : d.list.length ≤ 4294967296) (hm : houses ≤ 8) (hst : 0 ≤ steps ∧ steps ≤ 3) (hwy : 1 ≤ ways ∧ ways ≤ 3) (hfc : 0 ≤ facts ∧ facts ≤ 4) :
  zLJ prog 38 [.ptr 0 0, iV houses, iV steps, iV ways, iV facts] [u9 d] (zMj d houses steps ways facts).1.enc [u9 (zMj d houses steps ways facts).2] := by
 have s2 := zK4 d houses h hm
 have v := zKX (d := d) hm
 have hl := zKW d houses
 unfold zMj
 generalize Q8 d houses = P at *
 obtain ⟨p, d1⟩ := P
 simp only at s2 v hl
 have hd1 : d1.list.length ≤ 4294967296 := by rw [hl]; exact h
 unfold zND
 have st := L5 d1 steps hd1 (by omega)
 have hr := zAW hst.1 d1
 obtain ⟨n, hn⟩ : ∃ n : Nat, toN steps d1 = n := ⟨(toN steps d1).toNat, by omega⟩
 have h0 : SsP p ways (n - 0) (toD steps d1) [] (zMw p steps ways d1) := by
  unfold zMw
  rw [hn]
  exact ⟨by simp, by rw [p8]; exact hd1, by simp; omega⟩
 have hal := zN7 p steps ways d1
 rw [hn] at st hr
 simp only
 generalize zMw p steps ways d1 = R1 at *
 obtain ⟨SW, d3⟩ := R1
 simp only at hal
 have hd3 : d3.list.length ≤ 4294967296 := by rw [hal]; exact hd1
 unfold zNB
 have sf := L5 d3 facts hd3 (by omega)
 have hr2 := zAW hfc.1 d3
 obtain ⟨m, hmm⟩ : ∃ m : Nat, toN facts d3 = m := ⟨(toN facts d3).toNat, by omega⟩
 have hf0 : FsP (y4 p) (m - 0) (toD facts d3) [] (zMx p facts d3) := by
  unfold zMx
  rw [hmm]
  exact ⟨by simp, by rw [p8]; exact hd3, by simp; omega⟩
 rw [hmm] at sf hr2
 simp only
 generalize zMx p facts d3 = R2 at *
 obtain ⟨FT, d5⟩ := R2
 simp only
 have hct := v.count
 have sho := zK2 p (by have := v.len; omega) (fun l hl => by have := (v.rows l hl).len; omega) (by omega)
 have hn3 : n ≤ 3 := by omega
 have hm4 : m ≤ 4 := by omega
 clear hn hmm hl hal hd1 hd3 h hst hfc hm
 generalize toD steps d1 = d2 at *
 generalize toD facts d3 = d4 at *
 refine y3 func38 rfl (fun E hE => ?_); simp only [go_sem, ntmps38]
 repeat' (first | (show z3 ..; first | (refine Qr rfl ?_; try intro _ hK; try simp only [go_sem, *]) | (refine Qi rfl rfl rfl rfl (fun hb _ hK => ?_) (fun hb => ?_) <;> (have hc := hb; try simp only [go_sem] at hc; simp only [go_sem, *]))) | (show Hold ..; first | refine Qh rfl ?_ | refine q6 rfl mixed (by kernel_rfl) ?_ | (refine z7 rfl ⟨_, rfl, fun hb => ?_, fun hb => ?_⟩ <;> (have hc := hb; try simp only [go_sem] at hc)) | refine z8 rfl ?_) | (refine Qb ?_ ?_; focus kernel_rfl) | (show q7 ..; first | (refine x8 [0] [] (s2) (by simp) ?_ ?_ (by simp) (.inl rfl) ?_ ?_ ?_; (focus (simp only [go_sem, *]; done)); (focus (simp only [go_sem, *]; done)); (focus (first | (simp; done) | (simp [go_sem]; done))); (focus (first | (simp; done) | (simp [go_sem]; done))); simp only [go_sem, *]) | (refine x8 [0] [] (st) (by simp) ?_ ?_ (by simp) (.inl rfl) ?_ ?_ ?_; (focus (simp only [go_sem, *]; done)); (focus (simp only [go_sem, *]; done)); (focus (first | (simp; done) | (simp [go_sem]; done))); (focus (first | (simp; done) | (simp [go_sem]; done))); simp only [go_sem, *])) | ((with_reducible refine And.intro ?_ ?_); focus omega) | (refine z6 hK ?_; clear hK; simp only [go_sem, *]) | (simp only [z5, z4, go_sem, *]))
 all_goals try contradiction
 clear s2 st
 refine y8 rfl (fun zn zN zenv zAs => ∃ (i : Nat) (dd : Dice) (acc : List (List Change)), zn = (n) - i ∧ i ≤ (n) ∧ (SsP p ways (n - i) dd acc (SW, d3)) ∧ zN = 95 ∧ zenv = [(12, iV ((n - i : Nat) : Int)), (11, .ptr 2 0), (10, .ptr 1 0), (3, iV ways), (4, iV facts), (0, .ptr 0 0)] ∧ zAs = [u9 dd, .box [zLb, zLb, zLb], .box [.list (p.map y6), .own 3 1 0 acc.length, zLb], .row 1 (acc.map Z8)]) (n) ⟨[some 0, some 1, some 2, none], [], _, _, _, (by (simp only [Weak, go_sem, List.map_append, List.map_set, *] <;> (try simp (disch := omega) only [q9]) <;> (try simp) <;> (try omega))), 0, d2, [], (by simp), (by simp), (by exact h0), rfl, rfl, rfl⟩ ?_; rintro _ _ _ _ ⟨i, dd, acc, rfl, hi, hP, rfl, rfl, rfl⟩
 clear h0
 by_cases hi2 : i < n
 ·obtain ⟨k, hk⟩ : ∃ k, n - i = k + 1 := ⟨n - i - 1, by omega⟩
  have hk2 : n - (i + 1) = k := by omega
  rw [hk] at hP ⊢
  have hnx := hP.next
  have hw1 : IntKind.i64.wrap (((k + 1 : Nat) : Int) - 1) = (k : Int) := by rw [wrap_i64 (by omega) (by omega)]; omega
  have hgt : ((k + 1 : Nat) : Int) > 0 := by omega
  obtain ⟨_, hdl, hal⟩ := hP
  have sF := W0 dd 1 ways hdl (by omega) (by omega)
  have hwr := X0 (lo := 1) (hi := ways) hwy.1 dd
  obtain ⟨w, hwn⟩ : ∃ w : Nat, u1 1 ways dd = w := ⟨(u1 1 ways dd).toNat, by omega⟩
  have hw0 : WsP p (w - 0) (w7 1 ways dd) [] (zPz p ways dd) := by
   unfold zPz
   rw [hwn]
   exact ⟨by simp, by rw [S5]; exact hdl, by simp; omega⟩
  rw [hwn] at sF hwr
  clear hwn
  generalize w7 1 ways dd = d6 at *
  generalize zPz p ways dd = W at *
  obtain ⟨WL, d7⟩ := W
  simp only at hnx
  repeat' (first | (show z3 ..; first | (refine Qr rfl ?_; try intro _ hK; try simp only [go_sem, *]) | (refine Qi rfl rfl rfl rfl (fun hb _ hK => ?_) (fun hb => ?_) <;> (have hc := hb; try simp only [go_sem] at hc; simp only [go_sem, *]))) | (show Hold ..; first | refine Qh rfl ?_ | refine q6 rfl mixed (by kernel_rfl) ?_ | (refine z7 rfl ⟨_, rfl, fun hb => ?_, fun hb => ?_⟩ <;> (have hc := hb; try simp only [go_sem] at hc)) | refine z8 rfl ?_) | (refine Qb ?_ ?_; focus kernel_rfl) | (show q7 ..; first | (refine x8 [0] [] (sF) (by simp) ?_ ?_ (by simp) (.inl rfl) ?_ ?_ ?_; (focus (simp only [go_sem, *]; done)); (focus (simp only [go_sem, *]; done)); (focus (first | (simp; done) | (simp [go_sem]; done))); (focus (first | (simp; done) | (simp [go_sem]; done))); simp only [go_sem, *])) | ((with_reducible refine And.intro ?_ ?_); focus omega) | (refine z6 hK ?_; clear hK; simp only [go_sem, *]) | (simp only [z5, z4, go_sem, *]))
  all_goals try contradiction
  clear sF
  refine y8 rfl (fun zn zN zenv zAs => ∃ (j : Nat) (de : Dice) (cs : List Change), zn = (w) - j ∧ j ≤ (w) ∧ (WsP p (w - j) de cs (WL, d7)) ∧ zN = 95 ∧ zenv = [(14, iV ((w - j : Nat) : Int)), (13, .ptr 4 0), (12, iV ((k + 1 : Nat) : Int)), (11, .ptr 2 0), (10, .ptr 1 0), (3, iV ways), (4, iV facts), (0, .ptr 0 0)] ∧ zAs = [u9 de, .box [zLb, zLb, zLb], .box [.list (p.map y6), .own 3 1 0 acc.length, zLb], .row 1 (acc.map Z8), .box [.own 5 7 0 cs.length], .row 7 (cs.map Change.enc)]) (w) ⟨[some 0, some 1, some 2, some 3, some 4, none], [], _, _, _, (by (simp only [Weak, go_sem, List.map_append, List.map_set, *] <;> (try simp (disch := omega) only [q9]) <;> (try simp) <;> (try omega))), 0, d6, [], (by simp), (by simp), (by exact hw0), rfl, rfl, rfl⟩ ?_; rintro _ _ _ _ ⟨j, de, cs, rfl, hj, hQ, rfl, rfl, rfl⟩
  clear hw0
  by_cases hj2 : j < w
  ·obtain ⟨b, hb1⟩ : ∃ b, w - j = b + 1 := ⟨w - j - 1, by omega⟩
   have hb2 : w - (j + 1) = b := by omega
   rw [hb1] at hQ ⊢
   have hny := hQ.next
   have hw2 : IntKind.i64.wrap (((b + 1 : Nat) : Int) - 1) = (b : Int) := by rw [wrap_i64 (by omega) (by omega)]; omega
   have hgt2 : ((b + 1 : Nat) : Int) > 0 := by omega
   obtain ⟨_, hel, hcl⟩ := hQ
   have sC := zK0 de p hel v
   generalize N0 de p = C at *
   obtain ⟨c, d8⟩ := C
   simp only at sC hny
   repeat' (first | (show z3 ..; first | (refine Qr rfl ?_; try intro _ hK; try simp only [go_sem, *]) | (refine Qi rfl rfl rfl rfl (fun hb _ hK => ?_) (fun hb => ?_) <;> (have hc := hb; try simp only [go_sem] at hc; simp only [go_sem, *]))) | (show Hold ..; first | refine Qh rfl ?_ | refine q6 rfl mixed (by kernel_rfl) ?_ | (refine z7 rfl ⟨_, rfl, fun hb => ?_, fun hb => ?_⟩ <;> (have hc := hb; try simp only [go_sem] at hc)) | refine z8 rfl ?_) | (refine Qb ?_ ?_; focus kernel_rfl) | (show q7 ..; first | (refine x8 [0] [] (sC) (by simp) ?_ ?_ (by simp) (.inl rfl) ?_ ?_ ?_; (focus (simp only [go_sem, *]; done)); (focus (simp only [go_sem, *]; done)); (focus (first | (simp; done) | (simp [go_sem]; done))); (focus (first | (simp; done) | (simp [go_sem]; done))); simp only [go_sem, *])) | ((with_reducible refine And.intro ?_ ?_); focus omega) | (refine z6 hK ?_; clear hK; simp only [go_sem, *]) | (simp only [z5, z4, go_sem, *]))
   all_goals try contradiction
   refine ⟨_, (by omega), [some 0, some 1, some 2, some 3, some 4, some 7], [], _, _, _, (by (simp only [Weak, go_sem, List.map_append, List.map_set, *] <;> (try simp (disch := omega) only [q9]) <;> (try simp) <;> (try omega))), j + 1, d8, cs ++ [c], rfl, (by omega), (by rw [hb2]; exact hny), rfl, rfl, rfl⟩
  ·have hj3 : w - j = 0 := by omega
   rw [hj3] at hQ ⊢
   obtain ⟨hQ1, _, hcl⟩ := hQ
   rw [zMo] at hQ1
   injection hQ1 with hQ1 hQ2
   subst hQ1 hQ2
   repeat' (first | (show z3 ..; first | (refine Qr rfl ?_; try intro _ hK; try simp only [go_sem, *]) | (refine Qi rfl rfl rfl rfl (fun hb _ hK => ?_) (fun hb => ?_) <;> (have hc := hb; try simp only [go_sem] at hc; simp only [go_sem, *]))) | (show Hold ..; first | refine Qh rfl ?_ | refine q6 rfl mixed (by kernel_rfl) ?_ | (refine z7 rfl ⟨_, rfl, fun hb => ?_, fun hb => ?_⟩ <;> (have hc := hb; try simp only [go_sem] at hc)) | refine z8 rfl ?_) | (refine Qb ?_ ?_; focus kernel_rfl) | ((with_reducible refine And.intro ?_ ?_); focus omega) | (refine z6 hK ?_; clear hK; simp only [go_sem, *]) | (simp only [z5, z4, go_sem, *]))
   all_goals try contradiction
   refine ⟨_, (by omega), [some 0, some 1, some 2, some 7], [], _, _, _, (by (simp only [Weak, go_sem, List.map_append, List.map_set, *] <;> (try simp (disch := omega) only [q9]) <;> (try simp) <;> (try omega))), i + 1, de, acc ++ [cs], rfl, (by omega), (by rw [hk2]; exact hnx), rfl, rfl, rfl⟩
 ·have hi3 : n - i = 0 := by omega
  rw [hi3] at hP ⊢
  obtain ⟨hP1, _, hal⟩ := hP
  rw [zMm] at hP1
  injection hP1 with hP1 hP2
  subst hP1 hP2
  generalize hho : y4 p = H at *
  repeat' (first | (show z3 ..; first | (refine Qr rfl ?_; try intro _ hK; try simp only [go_sem, *]) | (refine Qi rfl rfl rfl rfl (fun hb _ hK => ?_) (fun hb => ?_) <;> (have hc := hb; try simp only [go_sem] at hc; simp only [go_sem, *]))) | (show Hold ..; first | refine Qh rfl ?_ | refine q6 rfl mixed (by kernel_rfl) ?_ | (refine z7 rfl ⟨_, rfl, fun hb => ?_, fun hb => ?_⟩ <;> (have hc := hb; try simp only [go_sem] at hc)) | refine z8 rfl ?_) | (refine Qb ?_ ?_; focus kernel_rfl) | (show q7 ..; first | (refine v5 (sho) ?_ ?_ ?_ ?_; (focus (simp only [go_sem, *]; done)); (focus (first | (simp; done) | (simp [go_sem]; done))); (focus (first | (simp; done) | (simp [go_sem]; done))); simp only [go_sem, *]) | (refine x8 [0] [] (sf) (by simp) ?_ ?_ (by simp) (.inl rfl) ?_ ?_ ?_; (focus (simp only [go_sem, *]; done)); (focus (simp only [go_sem, *]; done)); (focus (first | (simp; done) | (simp [go_sem]; done))); (focus (first | (simp; done) | (simp [go_sem]; done))); simp only [go_sem, *])) | ((with_reducible refine And.intro ?_ ?_); focus omega) | (refine z6 hK ?_; clear hK; simp only [go_sem, *]) | (simp only [z5, z4, go_sem, *]))
  all_goals try contradiction
  clear sho sf
  refine y8 rfl (fun zn zN zenv zAs => ∃ (j : Nat) (dd2 : Dice) (fs : List Fact), zn = (m) - j ∧ j ≤ (m) ∧ (FsP H (m - j) dd2 fs (FT, d5)) ∧ zN = 95 ∧ zenv = [(16, iV ((m - j : Nat) : Int)), (15, r8 H), (11, .ptr 2 0), (10, .ptr 1 0), (0, .ptr 0 0)] ∧ zAs = [u9 dd2, .box [zLb, zLb, zLb], .box [.list (p.map y6), .own 3 1 0 acc.length, .own 4 6 0 fs.length], .row 1 (acc.map Z8), .row 6 (fs.map Fact.enc)]) (m) ⟨[some 0, some 1, some 2, some 3, none], [4], _, _, _, (by (simp only [Weak, go_sem, List.map_append, List.map_set, *] <;> (try simp (disch := omega) only [q9]) <;> (try simp) <;> (try omega))), 0, d4, [], (by simp), (by simp), (by exact hf0), rfl, rfl, rfl⟩ ?_; rintro _ _ _ _ ⟨j, dd2, fs, rfl, hj, hQ, rfl, rfl, rfl⟩
  clear hf0
  by_cases hj2 : j < m
  ·obtain ⟨b, hb1⟩ : ∃ b, m - j = b + 1 := ⟨m - j - 1, by omega⟩
   have hb2 : m - (j + 1) = b := by omega
   rw [hb1] at hQ ⊢
   have hw2 : IntKind.i64.wrap (((b + 1 : Nat) : Int) - 1) = (b : Int) := by rw [wrap_i64 (by omega) (by omega)]; omega
   have hgt2 : ((b + 1 : Nat) : Int) > 0 := by omega
   by_cases h0 : H.length = 0
   ·have hz : ¬ ((H.length : Nat) : Int) > 0 := by omega
    obtain ⟨hQ1, _, hcl⟩ := hQ
    rw [zMi, if_pos h0] at hQ1
    injection hQ1 with hQ1 hQ2
    subst hQ1 hQ2
    repeat' (first | (show z3 ..; first | (refine Qr rfl ?_; try intro _ hK; try simp only [go_sem, *]) | (refine Qi rfl rfl rfl rfl (fun hb _ hK => ?_) (fun hb => ?_) <;> (have hc := hb; try simp only [go_sem] at hc; simp only [go_sem, *]))) | (show Hold ..; first | refine Qh rfl ?_ | refine q6 rfl mixed (by kernel_rfl) ?_ | (refine z7 rfl ⟨_, rfl, fun hb => ?_, fun hb => ?_⟩ <;> (have hc := hb; try simp only [go_sem] at hc)) | refine z8 rfl ?_) | (refine Qb ?_ ?_; focus kernel_rfl) | ((with_reducible refine And.intro ?_ ?_); focus omega) | (refine z6 hK ?_; clear hK; simp only [go_sem, *]) | (simp only [z5, z4, go_sem, *]))
    all_goals try contradiction
    refine ⟨[.agg [.list (p.map y6), .own 3 1 0 acc.length, .own 4 6 0 fs.length]], [some 0], [3, 4], ⟨by simp only [x9, go_sem], trivial⟩, ?_⟩
    simp only [go_sem, *]
   ·have hz : ((H.length : Nat) : Int) > 0 := by omega
    have hny := hQ.next h0
    obtain ⟨_, hel, hcl⟩ := hQ
    have hwl : IntKind.i64.wrap ((H.length : Int) - 1) = (H.length : Int) - 1 := wrap_i64 (by omega) (by omega)
    have sT1 := L5 dd2 ((H.length : Int) - 1) hel (by omega)
    have sT2 := L5 (zMe H dd2) ((H.length : Int) - 1) (by rw [zM4]; exact hel) (by omega)
    have sO := zAL (zMe H (zMe H dd2)) 2 (by rw [zM4, zM4]; exact hel) (by omega)
    have t1 := zAW (n := (H.length : Int) - 1) (by omega) dd2
    have t2 := zAW (n := (H.length : Int) - 1) (by omega) (zMe H dd2)
    change zLJ _ _ _ _ _ [u9 (zMe H dd2)] at sT1
    change zLJ _ _ _ _ _ [u9 (zMe H (zMe H dd2))] at sT2
    change zLJ _ _ _ _ _ [u9 (zMs H dd2)] at sO
    unfold zMt zM8 at hny
    obtain ⟨a, ha⟩ : ∃ a : Nat, toN ((H.length : Int) - 1) dd2 = a := ⟨(toN ((H.length : Int) - 1) dd2).toNat, by omega⟩
    obtain ⟨c, hc2⟩ : ∃ a : Nat, toN ((H.length : Int) - 1) (zMe H dd2) = a := ⟨(toN ((H.length : Int) - 1) (zMe H dd2)).toNat, by omega⟩
    rw [ha] at sT1 t1 hny
    rw [hc2] at sT2 t2 hny
    simp only [Int.toNat_natCast] at hny
    clear ha hc2
    have ha : a < H.length := by omega
    have hc3 : c < H.length := by omega
    generalize zMs H dd2 = d9 at *
    generalize zMe H (zMe H dd2) = d8 at *
    generalize zMe H dd2 = d7 at *
    by_cases o : Z1 2 d8 = true
    ·rw [o] at sO hny
     unfold zM6 at hny
     rw [if_pos rfl] at hny
     clear o
     repeat' (first | (show z3 ..; first | (refine Qr rfl ?_; try intro _ hK; try simp only [go_sem, *]) | (refine Qi rfl rfl rfl rfl (fun hb _ hK => ?_) (fun hb => ?_) <;> (have hc := hb; try simp only [go_sem] at hc; simp only [go_sem, *]))) | (show Hold ..; first | refine Qh rfl ?_ | refine q6 rfl mixed (by kernel_rfl) ?_ | (refine z7 rfl ⟨_, rfl, fun hb => ?_, fun hb => ?_⟩ <;> (have hc := hb; try simp only [go_sem] at hc)) | refine z8 rfl ?_) | (refine Qb ?_ ?_; focus kernel_rfl) | (show q7 ..; first | (refine x8 [0] [] (sT1) (by simp) ?_ ?_ (by simp) (.inl rfl) ?_ ?_ ?_; (focus (simp only [go_sem, *]; done)); (focus (simp only [go_sem, *]; done)); (focus (first | (simp; done) | (simp [go_sem]; done))); (focus (first | (simp; done) | (simp [go_sem]; done))); simp only [go_sem, *]) | (refine x8 [0] [] (sT2) (by simp) ?_ ?_ (by simp) (.inl rfl) ?_ ?_ ?_; (focus (simp only [go_sem, *]; done)); (focus (simp only [go_sem, *]; done)); (focus (first | (simp; done) | (simp [go_sem]; done))); (focus (first | (simp; done) | (simp [go_sem]; done))); simp only [go_sem, *]) | (refine x8 [0] [] (sO) (by simp) ?_ ?_ (by simp) (.inl rfl) ?_ ?_ ?_; (focus (simp only [go_sem, *]; done)); (focus (simp only [go_sem, *]; done)); (focus (first | (simp; done) | (simp [go_sem]; done))); (focus (first | (simp; done) | (simp [go_sem]; done))); simp only [go_sem, *])) | ((with_reducible refine And.intro ?_ ?_); focus omega) | (refine z6 hK ?_; clear hK; simp only [go_sem, *]) | (simp only [z5, z4, go_sem, *]))
     all_goals try contradiction
     refine ⟨_, (by omega), [some 0, some 1, some 2, some 3, some 7], [], _, _, _, (by (simp only [Weak, go_sem, List.map_append, List.map_set, *] <;> (try simp (disch := omega) only [q9]) <;> (try simp) <;> (try omega))), j + 1, d9, fs ++ [⟨H.getD a default, H.getD a default⟩], rfl, (by omega), (by rw [hb2]; exact hny), rfl, rfl, rfl⟩
    ·have o : Z1 2 d8 = false := by simpa using o
     rw [o] at sO hny
     unfold zM6 at hny
     rw [if_neg (by decide)] at hny
     clear o
     repeat' (first | (show z3 ..; first | (refine Qr rfl ?_; try intro _ hK; try simp only [go_sem, *]) | (refine Qi rfl rfl rfl rfl (fun hb _ hK => ?_) (fun hb => ?_) <;> (have hc := hb; try simp only [go_sem] at hc; simp only [go_sem, *]))) | (show Hold ..; first | refine Qh rfl ?_ | refine q6 rfl mixed (by kernel_rfl) ?_ | (refine z7 rfl ⟨_, rfl, fun hb => ?_, fun hb => ?_⟩ <;> (have hc := hb; try simp only [go_sem] at hc)) | refine z8 rfl ?_) | (refine Qb ?_ ?_; focus kernel_rfl) | (show q7 ..; first | (refine x8 [0] [] (sT1) (by simp) ?_ ?_ (by simp) (.inl rfl) ?_ ?_ ?_; (focus (simp only [go_sem, *]; done)); (focus (simp only [go_sem, *]; done)); (focus (first | (simp; done) | (simp [go_sem]; done))); (focus (first | (simp; done) | (simp [go_sem]; done))); simp only [go_sem, *]) | (refine x8 [0] [] (sT2) (by simp) ?_ ?_ (by simp) (.inl rfl) ?_ ?_ ?_; (focus (simp only [go_sem, *]; done)); (focus (simp only [go_sem, *]; done)); (focus (first | (simp; done) | (simp [go_sem]; done))); (focus (first | (simp; done) | (simp [go_sem]; done))); simp only [go_sem, *]) | (refine x8 [0] [] (sO) (by simp) ?_ ?_ (by simp) (.inl rfl) ?_ ?_ ?_; (focus (simp only [go_sem, *]; done)); (focus (simp only [go_sem, *]; done)); (focus (first | (simp; done) | (simp [go_sem]; done))); (focus (first | (simp; done) | (simp [go_sem]; done))); simp only [go_sem, *])) | ((with_reducible refine And.intro ?_ ?_); focus omega) | (refine z6 hK ?_; clear hK; simp only [go_sem, *]) | (simp only [z5, z4, go_sem, *]))
     all_goals try contradiction
     refine ⟨_, (by omega), [some 0, some 1, some 2, some 3, some 7], [], _, _, _, (by (simp only [Weak, go_sem, List.map_append, List.map_set, *] <;> (try simp (disch := omega) only [q9]) <;> (try simp) <;> (try omega))), j + 1, d9, fs ++ [⟨H.getD a default, H.getD c default⟩], rfl, (by omega), (by rw [hb2]; exact hny), rfl, rfl, rfl⟩
  ·have hj3 : m - j = 0 := by omega
   rw [hj3] at hQ ⊢
   obtain ⟨hQ1, _, hcl⟩ := hQ
   rw [zMi] at hQ1
   injection hQ1 with hQ1 hQ2
   subst hQ1 hQ2
   repeat' (first | (show z3 ..; first | (refine Qr rfl ?_; try intro _ hK; try simp only [go_sem, *]) | (refine Qi rfl rfl rfl rfl (fun hb _ hK => ?_) (fun hb => ?_) <;> (have hc := hb; try simp only [go_sem] at hc; simp only [go_sem, *]))) | (show Hold ..; first | refine Qh rfl ?_ | refine q6 rfl mixed (by kernel_rfl) ?_ | (refine z7 rfl ⟨_, rfl, fun hb => ?_, fun hb => ?_⟩ <;> (have hc := hb; try simp only [go_sem] at hc)) | refine z8 rfl ?_) | (refine Qb ?_ ?_; focus kernel_rfl) | ((with_reducible refine And.intro ?_ ?_); focus omega) | (refine z6 hK ?_; clear hK; simp only [go_sem, *]) | (simp only [z5, z4, go_sem, *]))
   all_goals try contradiction
   refine ⟨[.agg [.list (p.map y6), .own 3 1 0 acc.length, .own 4 6 0 fs.length]], [some 0], [3, 4], ⟨by simp only [x9, go_sem], trivial⟩, ?_⟩
   simp only [go_sem, *]
end Go.Abs

namespace Go.Abs
open Go Go.Proofs Tryz
attribute [local irreducible] z3 Hold q7
@[go_sem, simp] theorem zPg (H : Nat → AObj) (m : List (Option Nat)) (ex : List Nat) (l : List (List Int)) : XpL H m ex (List.map l6 l) (List.map l6 l) ↔ True := ⟨fun _ => trivial, fun _ => zAi (fun x => by simp only [XpF]) _⟩
@[go_sem, simp] theorem zPi (H : Nat → AObj) (m : List (Option Nat)) (ex : List Nat) (l : List (List Int)) (ys zs : List AV) : XpL H m ex (List.map l6 l ++ [.list ys]) (List.map l6 l ++ [.list zs]) ↔ ys = zs := by
 rw [O5 _ (fun z hz => by
  obtain ⟨t, _, rfl⟩ := List.mem_map.1 hz
  simp only [XpF])]
 simp only [XpF]
@[go_sem, simp] theorem zPh (H : Nat → AObj) (m : List (Option Nat)) (ex : List Nat) (l r : List (List Int)) : XpL H m ex (List.map l6 l ++ List.map l6 r) (List.map l6 l ++ List.map l6 r) ↔ True := ⟨fun _ => trivial, fun _ => by rw [← List.map_append]; exact zAi (fun x => by simp only [XpF]) _⟩
@[reducible] def zP5 (s : Story) : AObj := .box [.list (s.first.map y6), .list (s.steps.map Z8), .list (s.facts.map Fact.enc)]
structure RunP (s : Story) (w : List Int) (i : Nat) (t : Truth) (G : Option Truth) : Prop where
 run : zPy s (w.drop i) t = G
 len : t.ways.length = i
 val : Valid t.fin
theorem RunP.start {s : Story} {w : List Int} (v : Valid s.first) : RunP s w 0 (Y9 s) (zPy s w (Y9 s)) := ⟨rfl, rfl, v⟩
theorem RunP.yes {s : Story} {w : List Int} {i : Nat} {t : Truth} {G : Option Truth} (h : RunP s w i t G) (hi : i < w.length) (e : can t.fin (zP3 s t (w.getD i default)) = 0) : RunP s w (i + 1) (j7 t (zP3 s t (w.getD i default)) (w.getD i default).toNat) G := by
 obtain ⟨h1, h2, h3⟩ := h
 rw [v3 hi, zNu e] at h1
 exact ⟨h1, by rw [zN4, h2], zCu h3 (Fit.of_can e)⟩
theorem RunP.no {s : Story} {w : List Int} {i : Nat} {t : Truth} {G : Option Truth} (h : RunP s w i t G) (hi : i < w.length) (e : ¬ can t.fin (zP3 s t (w.getD i default)) = 0) : G = none := by
 obtain ⟨h1, h2, h3⟩ := h
 rw [v3 hi, zNt e] at h1
 exact h1.symm
theorem RunP.fin {s : Story} {w : List Int} {i : Nat} {t : Truth} {G : Option Truth} (h : RunP s w i t G) (hi : w.length ≤ i) : G = some t := by
 have h1 := h.run
 rw [v4 hi] at h1
 exact h1.symm
def zP7 (s : Story) (w : List Int) : Prop := w.length = s.steps.length ∧ ∀ j, j < s.steps.length → 0 ≤ w.getD j default ∧ w.getD j default < (s.steps.getD j default).length
theorem zPa {s : Story} {w : List Int} (h : w ∈ zNZ s) : zP7 s w := by
 obtain ⟨h1, h2⟩ := zNR _ _ _ h
 exact ⟨h1, fun j hj => by have := h2 j hj; rw [Nat.zero_add] at this; exact this⟩
theorem zOp {s : Story} {w : List Int} {i : Nat} (t : Truth) (c : Change) (h : House) : w8 ((t.now h).flatMap fun x => w8 (mv t.fin c x)) = (j7 t c i).now h := by
 show _ = w8 ((t.now h).flatMap (mv t.fin c))
 exact zKy (fun z => by simp only [List.mem_flatMap, mem_sortH])
theorem zPK (s : Story) (o : Told s) (w : List Int) (hw : zP7 s w) (h : House) (hh : h ∈ y4 s.first) (T : Truth) (hT : zPy s w (Y9 s) = some T) :
  zLJ prog 42 [s.enc, l6 w, h.enc] [] (.tup [y5 T.fin, r8 (T.now h), iV 1]) [] := by
 have h3 := o.steps
 have h0 := RunP.start (w := w) o.first
 have k0 : TOk s s.steps.length (Y9 s) := zBA o.first
 obtain ⟨hwl, hwb⟩ := hw
 rw [hT] at h0
 have hff : (Y9 s).fin = s.first := rfl
 have hfn : (Y9 s).now h = [h] := rfl
 clear hT
 refine y3 func42 rfl (fun E hE => ?_); simp only [go_sem, ntmps42]
 repeat' (first | (show z3 ..; first | (refine Qr rfl ?_; try intro _ hK; try simp only [go_sem, *]) | (refine Qi rfl rfl rfl rfl (fun hb _ hK => ?_) (fun hb => ?_) <;> (have hc := hb; try simp only [go_sem] at hc; simp only [go_sem, *]))) | (show Hold ..; first | refine Qh rfl ?_ | refine q6 rfl mixed (by kernel_rfl) ?_ | (refine z7 rfl ⟨_, rfl, fun hb => ?_, fun hb => ?_⟩ <;> (have hc := hb; try simp only [go_sem] at hc)) | refine z8 rfl ?_) | (refine Qb ?_ ?_; focus kernel_rfl) | ((with_reducible refine And.intro ?_ ?_); focus omega) | (refine z6 hK ?_; clear hK; simp only [go_sem, *]) | (simp only [z5, z4, go_sem, *]))
 all_goals try contradiction
 refine y8 rfl (fun zn zN zenv zAs => ∃ (i : Nat) (t : Truth), zn = (w.length) - i ∧ i ≤ (w.length) ∧ (RunP s w i t (some T) ∧ TOk s (s.steps.length - i) t) ∧ zN = 82 ∧ zenv = [(11, iV i), (10, r8 (t.now h)), (9, .ptr 2 0), (6, .ptr 1 0), (1, l6 w), (3, .ptr 0 0)] ∧ zAs = [zP5 s, .box [zLb], zLW t.fin]) (w.length) ⟨[some 0, some 2, some 4], [3], _, _, _, (by (simp only [Weak, go_sem, List.map_append, List.map_set, *] <;> (try simp (disch := omega) only [q9]) <;> (try simp) <;> (try omega))), 0, Y9 s, (by simp), (by simp), (by exact ⟨h0, k0⟩), rfl, rfl, rfl⟩ ?_; rintro _ _ _ _ ⟨i, t, rfl, hi, hP, rfl, rfl, rfl⟩
 clear h0 hff hfn k0
 obtain ⟨hP, hK1⟩ := hP
 by_cases hi : i < w.length
 ·have hi3 : (i : Int) < w.length := by omega
  have his : i < s.steps.length := by omega
  obtain ⟨b0, b1⟩ := hwb i his
  have hti := hP.len
  have hv := hP.val
  have hv3 := hv.len
  have hy := hP.yes hi
  have hn := hP.no hi
  have hc0 : zP3 s t (w.getD i default) = (s.steps.getD i default).getD (w.getD i default).toNat default := by unfold zP3 s7; rw [hti]
  rw [hc0] at hy hn
  have b2 : (w.getD i default).toNat < (s.steps.getD i default).length := by omega
  have sA := zGf t.fin ((s.steps.getD i default).getD (w.getD i default).toNat default) (by omega)
  have hE : r9 t.fin ((s.steps.getD i default).getD (w.getD i default).toNat default) = can t.fin ((s.steps.getD i default).getD (w.getD i default).toNat default) := by unfold r9; rw [if_pos ((T8 _).2 hv)]
  rw [hE] at sA
  have e : can t.fin ((s.steps.getD i default).getD (w.getD i default).toNat default) = 0 := by
   by_cases e : can t.fin ((s.steps.getD i default).getD (w.getD i default).toNat default) = 0
   ·exact e
   ·have := hn e; cases this
  have hP2 := hy e
  rw [e] at hE
  rw [if_pos e, e] at sA
  obtain ⟨k, hk⟩ : ∃ k, s.steps.length - i = k + 1 := ⟨s.steps.length - i - 1, by omega⟩
  have hk2 : s.steps.length - (i + 1) = k := by omega
  rw [hk] at hK1
  have hsm := hK1.small h3 hh
  have hK2 := hK1.next e (w.getD i default).toNat
  have hmm := hK1.mem h hh
  have hnn := zOp (i := (w.getD i default).toNat) t ((s.steps.getD i default).getD (w.getD i default).toNat default) h (s := s) (w := w)
  have hBB : ∀ x, x ∈ t.now h → x.Wf ∧ zDG t.fin ((s.steps.getD i default).getD (w.getD i default).toNat default) x = 0 ∧ zIu t.fin ((s.steps.getD i default).getD (w.getD i default).toNat default) x = w8 (mv t.fin ((s.steps.getD i default).getD (w.getD i default).toNat default) x) := fun x hx => by
   have hx2 := hmm x hx
   have b : zDG t.fin ((s.steps.getD i default).getD (w.getD i default).toNat default) x = 0 := by unfold zDG; rw [if_pos hE, if_pos hx2]
   exact ⟨hv.wf x hx2, b, by unfold zIu; rw [if_pos b]⟩
  have sB := fun x hx => zO4 t.fin ((s.steps.getD i default).getD (w.getD i default).toNat default) x (by omega) hx
  have hBl : ∀ x, (w8 (mv t.fin ((s.steps.getD i default).getD (w.getD i default).toNat default) x)).length ≤ 2 := fun x => Nat.le_trans (R8 (U5 _).nodup (fun _ hx => mem_sortH.1 hx)) (zBv _ _ x)
  have hf : (j7 t ((s.steps.getD i default).getD (w.getD i default).toNat default) (w.getD i default).toNat).fin = u4 t.fin ((s.steps.getD i default).getD (w.getD i default).toNat default) := rfl
  rw [← hf] at sA
  clear hP hc0 hti hE hwb hf hy hn e hmm
  generalize hz : w.getD i default = z at *
  generalize hcc : (s.steps.getD i default).getD z.toNat default = c at *
  generalize j7 t c z.toNat = t2 at *
  generalize t.now h = l at *
  have hfl : ([] : List House) ++ (l.drop 0).flatMap (fun x => w8 (mv t.fin c x)) = l.flatMap fun x => w8 (mv t.fin c x) := rfl
  have hLl : (l.flatMap fun x => w8 (mv t.fin c x)).length ≤ 16 := by
   have := zNi (f := fun x => w8 (mv t.fin c x)) (l := l) (N := 2) (fun x _ => hBl x)
   omega
  have sS := zAT (l.flatMap fun x => w8 (mv t.fin c x)) (by omega)
  rw [hnn] at sS
  clear hnn
  generalize (l.flatMap fun x => w8 (mv t.fin c x)) = L2 at *
  repeat' (first | (show z3 ..; first | (refine Qr rfl ?_; try intro _ hK; try simp only [go_sem, *]) | (refine Qi rfl rfl rfl rfl (fun hb _ hK => ?_) (fun hb => ?_) <;> (have hc := hb; try simp only [go_sem] at hc; simp only [go_sem, *]))) | (show Hold ..; first | refine Qh rfl ?_ | refine q6 rfl mixed (by kernel_rfl) ?_ | (refine z7 rfl ⟨_, rfl, fun hb => ?_, fun hb => ?_⟩ <;> (have hc := hb; try simp only [go_sem] at hc)) | refine z8 rfl ?_) | (refine Qb ?_ ?_; focus kernel_rfl) | (show q7 ..; first | (refine q8 (sA) ?_ ?_; (focus (simp only [go_sem, *]; done)); simp only [go_sem, *])) | ((with_reducible refine And.intro ?_ ?_); focus omega) | (refine z6 hK ?_; clear hK; simp only [go_sem, *]) | (simp only [z5, z4, go_sem, *]))
  all_goals try contradiction
  clear sA hcc hz
  refine y8 rfl (fun zn zN zenv zAs => ∃ (j : Nat) (acc : List House), zn = (l.length) - j ∧ j ≤ (l.length) ∧ (acc ++ (l.drop j).flatMap (fun x => w8 (mv t.fin c x)) = L2) ∧ zN = 82 ∧ zenv = [(16, iV j), (15, .own 5 3 0 acc.length), (13, .ptr 4 0), (12, .ptr 3 0), (11, iV i), (10, r8 l), (9, .ptr 2 0), (6, .ptr 1 0), (1, l6 w), (3, .ptr 0 0)] ∧ zAs = [zP5 s, .box [zLb], zLW t.fin, zLq c, zLW t2.fin, .row 3 (acc.map House.enc)]) (l.length) ⟨[some 0, some 1, some 2, some 3, some 4, none], [], _, _, _, (by (simp only [Weak, go_sem, List.map_append, List.map_set, *] <;> (try simp (disch := omega) only [q9]) <;> (try simp) <;> (try omega))), 0, [], (by simp), (by simp), (by exact hfl), rfl, rfl, rfl⟩ ?_; rintro _ _ _ _ ⟨j, acc, rfl, hj, hQ, rfl, rfl, rfl⟩
  clear hfl
  have hql := congrArg List.length hQ
  simp only [List.length_append] at hql
  by_cases hj : j < l.length
  ·have hj3 : (j : Int) < l.length := by omega
   obtain ⟨f1, f2, f3⟩ := hBB _ (w6 hj)
   have sB1 := sB _ f1
   rw [f2, f3] at sB1
   have hb2 := hBl (l.getD j default)
   rw [v3 hj, List.flatMap_cons] at hQ
   clear hBB sB hBl f1 f2 f3 sS
   generalize w8 (mv t.fin c (l.getD j default)) = b at *
   have hb3 : ¬ ((b.length : Nat) : Int) > 2 := by omega
   repeat' (first | (show z3 ..; first | (refine Qr rfl ?_; try intro _ hK; try simp only [go_sem, *]) | (refine Qi rfl rfl rfl rfl (fun hb _ hK => ?_) (fun hb => ?_) <;> (have hc := hb; try simp only [go_sem] at hc; simp only [go_sem, *]))) | (show Hold ..; first | refine Qh rfl ?_ | refine q6 rfl mixed (by kernel_rfl) ?_ | (refine z7 rfl ⟨_, rfl, fun hb => ?_, fun hb => ?_⟩ <;> (have hc := hb; try simp only [go_sem] at hc)) | refine z8 rfl ?_) | (with_reducible (show (∀ _ : AV, _ → _) ∧ _); refine And.intro ?_ ?_; (focus (intro y hy; first | (obtain ⟨z, _, rfl⟩ := List.mem_map.1 (hy); simp [go_sem]; done) | (obtain ⟨z, _, rfl⟩ := List.mem_map.1 (List.mem_of_mem_take hy); simp [go_sem]; done) | (obtain ⟨z, _, rfl⟩ := List.mem_map.1 (List.mem_of_mem_drop hy); simp [go_sem]; done) | (obtain ⟨z, _, rfl⟩ := List.mem_map.1 (List.mem_of_mem_drop (List.mem_of_mem_take hy)); simp [go_sem]; done)))) | (refine Qb ?_ ?_; focus kernel_rfl) | (show q7 ..; first | (refine q8 (sB1) ?_ ?_; (focus (simp only [go_sem, *]; done)); simp only [go_sem, *])) | ((with_reducible refine And.intro ?_ ?_); focus omega) | (refine z6 hK ?_; clear hK; simp only [go_sem, *]) | (simp only [z5, z4, go_sem, *]))
   all_goals try contradiction
   refine ⟨_, (by omega), [some 0, some 1, some 2, some 3, some 4, some 6], [], _, _, _, (by (simp only [Weak, go_sem, List.map_append, List.map_set, *] <;> (try simp (disch := omega) only [q9]) <;> (try simp) <;> (try omega))), j + 1, acc ++ b, rfl, (by omega), (by rw [← hQ]; simp), rfl, rfl, rfl⟩
  ·have hj3 : ¬ (j : Int) < l.length := by omega
   rw [v4 (by omega), List.flatMap_nil, List.append_nil] at hQ
   subst hQ
   clear hBB sB hBl
   repeat' (first | (show z3 ..; first | (refine Qr rfl ?_; try intro _ hK; try simp only [go_sem, *]) | (refine Qi rfl rfl rfl rfl (fun hb _ hK => ?_) (fun hb => ?_) <;> (have hc := hb; try simp only [go_sem] at hc; simp only [go_sem, *]))) | (show Hold ..; first | refine Qh rfl ?_ | refine q6 rfl mixed (by kernel_rfl) ?_ | (refine z7 rfl ⟨_, rfl, fun hb => ?_, fun hb => ?_⟩ <;> (have hc := hb; try simp only [go_sem] at hc)) | refine z8 rfl ?_) | (refine Qb ?_ ?_; focus kernel_rfl) | (show q7 ..; first | (refine r6 (sS) ?_ rfl ?_ ?_ ?_ ?_; (focus (simp only [go_sem, *]; done)); (focus (simp only [go_sem, *]; done)); (focus (first | (simp; done) | (simp [go_sem]; done))); (focus (first | (simp; done) | (simp [go_sem]; done))); simp only [go_sem, w9, *])) | ((with_reducible refine And.intro ?_ ?_); focus omega) | (refine z6 hK ?_; clear hK; simp only [go_sem, *]) | (simp only [z5, z4, go_sem, *]))
   all_goals try contradiction
   refine ⟨_, (by omega), [some 0, some 1, some 2], [], _, _, _, (by (simp only [Weak, go_sem, List.map_append, List.map_set, *] <;> (try simp (disch := omega) only [q9]) <;> (try simp) <;> (try omega))), i + 1, t2, rfl, (by omega), (by exact ⟨hP2, by rw [hk2]; exact hK2⟩), rfl, rfl, rfl⟩
 ·have hi3 : ¬ (i : Int) < w.length := by omega
  have hG := hP.fin (by omega)
  injection hG with hG
  subst hG
  clear hP hwl hwb hK1
  repeat' (first | (show z3 ..; first | (refine Qr rfl ?_; try intro _ hK; try simp only [go_sem, *]) | (refine Qi rfl rfl rfl rfl (fun hb _ hK => ?_) (fun hb => ?_) <;> (have hc := hb; try simp only [go_sem] at hc; simp only [go_sem, *]))) | (show Hold ..; first | refine Qh rfl ?_ | refine q6 rfl mixed (by kernel_rfl) ?_ | (refine z7 rfl ⟨_, rfl, fun hb => ?_, fun hb => ?_⟩ <;> (have hc := hb; try simp only [go_sem] at hc)) | refine z8 rfl ?_) | (refine Qb ?_ ?_; focus kernel_rfl) | ((with_reducible refine And.intro ?_ ?_); focus omega) | (refine z6 hK ?_; clear hK; simp only [go_sem, *]) | (simp only [z5, z4, go_sem, *]))
  all_goals try contradiction
  refine ⟨[y5 T.fin, r8 (T.now h), iV 1], [], [], ⟨(by simp only [x9, go_sem]), rfl, rfl, trivial⟩, ?_⟩; simp only [go_sem, *]
end Go.Abs

namespace Go.Abs
open Go Go.Proofs Tryz
attribute [local irreducible] z3 Hold q7
@[reducible] def zP0 (hs : List House) (f : House → List House) : List AV := hs.map fun h => r8 (f h)
@[go_sem, simp] theorem zPf (H : Nat → AObj) (m : List (Option Nat)) (ex : List Nat) (l : List House) (f : House → List House) : XpL H m ex (List.map (fun h => AV.list (List.map House.enc (f h))) l) (List.map (fun h => AV.list (List.map House.enc (f h))) l) ↔ True := ⟨fun _ => trivial, fun _ => zAi (fun x => by simp only [XpF]) _⟩
@[go_sem, simp] theorem zOF {α : Type} (H : Nat → AObj) (m : List (Option Nat)) (ex : List Nat) (f : α → List AV) (l : List α) (x y : AV) : XpL H m ex (List.map (fun t => AV.list (f t)) l ++ [x]) (List.map (fun t => AV.list (f t)) l ++ [y]) ↔ XpF H m ex x y := by
 rw [O5 _ (fun z hz => by
  obtain ⟨t, _, rfl⟩ := List.mem_map.1 hz
  simp only [XpF])]
@[go_sem, simp] theorem zPl {α : Type} (H : Nat → AObj) (m : List (Option Nat)) (ex : List Nat) (f : α → List AV) (l : List α) : XpL H m ex (List.map (fun t => AV.list (f t)) l) (List.map (fun t => AV.list (f t)) l) ↔ True := ⟨fun _ => trivial, fun _ => zAi (fun x => by simp only [XpF]) _⟩
theorem zPL (s : Story) (w : List Int) (hw : zP7 s w) (h3 : s.steps.length ≤ 4294967296) : zLJ prog 63 [s.enc, l6 w] [] (bV true) [] := by
 obtain ⟨hwl, hwb⟩ := hw
 have hn : ((w.length : Int) != (s.steps.length : Int)) = false := by simp; omega
 refine y3 func63 rfl (fun E hE => ?_); simp only [go_sem, ntmps63]
 repeat' (first | (show z3 ..; first | (refine Qr rfl ?_; try intro _ hK; try simp only [go_sem, *]) | (refine Qi rfl rfl rfl rfl (fun hb _ hK => ?_) (fun hb => ?_) <;> (have hc := hb; try simp only [go_sem] at hc; simp only [go_sem, *]))) | (show Hold ..; first | refine Qh rfl ?_ | refine q6 rfl mixed (by kernel_rfl) ?_ | (refine z7 rfl ⟨_, rfl, fun hb => ?_, fun hb => ?_⟩ <;> (have hc := hb; try simp only [go_sem] at hc)) | refine z8 rfl ?_) | (refine Qb ?_ ?_; focus kernel_rfl) | ((with_reducible refine And.intro ?_ ?_); focus omega) | (refine z6 hK ?_; clear hK; simp only [go_sem, *]) | (simp only [z5, z4, go_sem, *]))
 all_goals try contradiction
 clear hn
 refine y8 rfl (fun zn zN zenv zAs => ∃ (i : Nat), zn = (w.length) - i ∧ i ≤ (w.length) ∧ (NoP i) ∧ zN = 37 ∧ zenv = [(5, iV i), (2, .ptr 0 0), (1, l6 w)] ∧ zAs = [zP5 s]) (w.length) ⟨[some 0], [], _, _, _, (by (simp only [Weak, go_sem, List.map_append, List.map_set, *] <;> (try simp (disch := omega) only [q9]) <;> (try simp) <;> (try omega))), 0, (by simp), (by simp), (by trivial), rfl, rfl, rfl⟩ ?_; rintro _ _ _ _ ⟨i, rfl, hi, hP, rfl, rfl, rfl⟩
 by_cases hi : i < w.length
 ·have hi3 : (i : Int) < w.length := by omega
  have his : i < s.steps.length := by omega
  obtain ⟨b0, b1⟩ := hwb i his
  clear hwl hwb
  generalize hz : w.getD i default = z at *
  have n1 : ¬ z < 0 := by omega
  have n2 : ¬ z ≥ ((s.steps.getD i default).length : Int) := by omega
  repeat' (first | (show z3 ..; first | (refine Qr rfl ?_; try intro _ hK; try simp only [go_sem, *]) | (refine Qi rfl rfl rfl rfl (fun hb _ hK => ?_) (fun hb => ?_) <;> (have hc := hb; try simp only [go_sem] at hc; simp only [go_sem, *]))) | (show Hold ..; first | refine Qh rfl ?_ | refine q6 rfl mixed (by kernel_rfl) ?_ | (refine z7 rfl ⟨_, rfl, fun hb => ?_, fun hb => ?_⟩ <;> (have hc := hb; try simp only [go_sem] at hc)) | refine z8 rfl ?_) | (refine Qb ?_ ?_; focus kernel_rfl) | ((with_reducible refine And.intro ?_ ?_); focus omega) | (refine z6 hK ?_; clear hK; simp only [go_sem, *]) | (simp only [z5, z4, go_sem, *]))
  all_goals first | contradiction | omega | skip
  refine ⟨_, (by omega), [some 0], [], _, _, _, (by (simp only [Weak, go_sem, List.map_append, List.map_set, *] <;> (try simp (disch := omega) only [q9]) <;> (try simp) <;> (try omega))), i + 1, rfl, (by omega), (by trivial), rfl, rfl, rfl⟩
 ·have hi3 : ¬ (i : Int) < w.length := by omega
  clear hwl
  repeat' (first | (show z3 ..; first | (refine Qr rfl ?_; try intro _ hK; try simp only [go_sem, *]) | (refine Qi rfl rfl rfl rfl (fun hb _ hK => ?_) (fun hb => ?_) <;> (have hc := hb; try simp only [go_sem] at hc; simp only [go_sem, *]))) | (show Hold ..; first | refine Qh rfl ?_ | refine q6 rfl mixed (by kernel_rfl) ?_ | (refine z7 rfl ⟨_, rfl, fun hb => ?_, fun hb => ?_⟩ <;> (have hc := hb; try simp only [go_sem] at hc)) | refine z8 rfl ?_) | (refine Qb ?_ ?_; focus kernel_rfl) | ((with_reducible refine And.intro ?_ ?_); focus omega) | (refine z6 hK ?_; clear hK; simp only [go_sem, *]) | (simp only [z5, z4, go_sem, *]))
  all_goals try contradiction
  (refine ⟨[_], [], [], ⟨rfl, trivial⟩, ?_⟩; simp only [go_sem, *])
theorem zNy (s : Story) (o : Told s) : zLJ prog 45 [s.enc] [] (.tup [.list ((t8 s).map fun t => .list (zP0 (y4 s.first) t.now)), bV true]) [] := by
 have v := o.first
 have hct := v.count
 have h3 := o.steps
 have sT := zG1 s (zNH o)
 have hl := K3 o.steps (fun w hw => (o.ways w hw).2.1)
 have sH := zK2 s.first (by have := v.len; omega) (fun l hl => by have := (v.rows l hl).len; omega) (by omega)
 have hwy : ∀ t, t ∈ t8 s → zP7 s t.ways ∧ t.ways.length ≤ 1000 := fun t ht => by
  have := zPa (zOB ht).1
  exact ⟨this, by have := this.1; omega⟩
 have sF := fun t (ht : t ∈ t8 s) h (hh : h ∈ y4 s.first) => zPK s o t.ways (hwy t ht).1 h hh t (zOB ht).2
 have sL := fun t (ht : t ∈ t8 s) => zPL s t.ways (hwy t ht).1 (by omega)
 have hww : (F3 s).map l6 = (t8 s).map fun t => l6 t.ways := by unfold F3; rw [List.map_map]; rfl
 have hwl : (F3 s).length = (t8 s).length := by unfold F3; rw [List.length_map]
 rw [hww] at sT
 clear hww hwl hwy
 generalize t8 s = L at *
 generalize y4 s.first = H at *
 have h30 : ¬ ((L.length : Nat) : Int) > 30 := by omega
 refine y3 func45 rfl (fun E hE => ?_); simp only [go_sem, ntmps45]
 repeat' (first | (show z3 ..; first | (refine Qr rfl ?_; try intro _ hK; try simp only [go_sem, *]) | (refine Qi rfl rfl rfl rfl (fun hb _ hK => ?_) (fun hb => ?_) <;> (have hc := hb; try simp only [go_sem] at hc; simp only [go_sem, *]))) | (show Hold ..; first | refine Qh rfl ?_ | refine q6 rfl mixed (by kernel_rfl) ?_ | (refine z7 rfl ⟨_, rfl, fun hb => ?_, fun hb => ?_⟩ <;> (have hc := hb; try simp only [go_sem] at hc)) | refine z8 rfl ?_) | (refine Qb ?_ ?_; focus kernel_rfl) | (show q7 ..; first | (refine q8 (sT) ?_ ?_; (focus (simp only [go_sem, *]; done)); simp only [go_sem, *]) | (refine v5 (sH) ?_ ?_ ?_ ?_; (focus (simp only [go_sem, *]; done)); (focus (first | (simp; done) | (simp [go_sem]; done))); (focus (first | (simp; done) | (simp [go_sem]; done))); simp only [go_sem, *])) | ((with_reducible refine And.intro ?_ ?_); focus omega) | (refine z6 hK ?_; clear hK; simp only [go_sem, *]) | (simp only [z5, z4, go_sem, *]))
 all_goals try contradiction
 clear sT sH h30
 refine y8 rfl (fun zn zN zenv zAs => ∃ (i : Nat), zn = (L.length) - i ∧ i ≤ (L.length) ∧ (NoP i) ∧ zN = 73 ∧ zenv = [(8, iV i), (7, .own 1 1 0 i), (6, r8 H), (4, .list (L.map fun t => l6 t.ways)), (1, .ptr 0 0)] ∧ zAs = [zP5 s, .box ((L.take i).map fun t => .list (zP0 H t.now))]) (L.length) ⟨[some 0, none], [1], _, _, _, (by (simp only [Weak, go_sem, List.map_append, List.map_set, *] <;> (try simp (disch := omega) only [q9]) <;> (try simp) <;> (try omega))), 0, (by simp), (by simp), (by trivial), rfl, rfl, rfl⟩ ?_; rintro _ _ _ _ ⟨i, rfl, hi, hP, rfl, rfl, rfl⟩
 by_cases hi : i < L.length
 ·have hi3 : (i : Int) < L.length := by omega
  have hm := w6 hi
  have sL1 := sL _ hm
  have sF1 := sF _ hm
  have e := j0 (l := L) (i := i) hi
  clear sL sF hm
  repeat' (first | (show z3 ..; first | (refine Qr rfl ?_; try intro _ hK; try simp only [go_sem, *]) | (refine Qi rfl rfl rfl rfl (fun hb _ hK => ?_) (fun hb => ?_) <;> (have hc := hb; try simp only [go_sem] at hc; simp only [go_sem, *]))) | (show Hold ..; first | refine Qh rfl ?_ | refine q6 rfl mixed (by kernel_rfl) ?_ | (refine z7 rfl ⟨_, rfl, fun hb => ?_, fun hb => ?_⟩ <;> (have hc := hb; try simp only [go_sem] at hc)) | refine z8 rfl ?_) | (refine Qb ?_ ?_; focus kernel_rfl) | (show q7 ..; first | (refine q8 (sL1) ?_ ?_; (focus (simp only [go_sem, *]; done)); simp only [go_sem, *])) | ((with_reducible refine And.intro ?_ ?_); focus omega) | (refine z6 hK ?_; clear hK; simp only [go_sem, *]) | (simp only [z5, z4, go_sem, *]))
  all_goals try contradiction
  clear sL1
  refine y8 rfl (fun zn zN zenv zAs => ∃ (k : Nat), zn = (H.length) - k ∧ k ≤ (H.length) ∧ (NoP k) ∧ zN = 73 ∧ zenv = [(10, iV k), (9, .own 2 1 0 k), (8, iV i), (7, .own 1 1 0 i), (6, r8 H), (4, .list (L.map fun t => l6 t.ways)), (1, .ptr 0 0)] ∧ zAs = [zP5 s, .box ((L.take i).map fun t => .list (zP0 H t.now)), .box (zP0 (H.take k) (L.getD i default).now)]) (H.length) ⟨[some 0, some 1, none], [], _, _, _, (by (simp only [Weak, go_sem, List.map_append, List.map_set, *] <;> (try simp (disch := omega) only [q9]) <;> (try simp) <;> (try omega))), 0, (by simp), (by simp), (by trivial), rfl, rfl, rfl⟩ ?_; rintro _ _ _ _ ⟨k, rfl, hk, hQ, rfl, rfl, rfl⟩
  by_cases hk : k < H.length
  ·have hk3 : (k : Int) < H.length := by omega
   have sF2 := sF1 _ (w6 hk)
   have e2 := j0 (l := H) (i := k) hk
   clear sF1 e
   repeat' (first | (show z3 ..; first | (refine Qr rfl ?_; try intro _ hK; try simp only [go_sem, *]) | (refine Qi rfl rfl rfl rfl (fun hb _ hK => ?_) (fun hb => ?_) <;> (have hc := hb; try simp only [go_sem] at hc; simp only [go_sem, *]))) | (show Hold ..; first | refine Qh rfl ?_ | refine q6 rfl mixed (by kernel_rfl) ?_ | (refine z7 rfl ⟨_, rfl, fun hb => ?_, fun hb => ?_⟩ <;> (have hc := hb; try simp only [go_sem] at hc)) | refine z8 rfl ?_) | (refine Qb ?_ ?_; focus kernel_rfl) | (show q7 ..; first | (refine q8 (sF2) ?_ ?_; (focus (simp only [go_sem, *]; done)); simp only [go_sem, *])) | ((with_reducible refine And.intro ?_ ?_); focus omega) | (refine z6 hK ?_; clear hK; simp only [go_sem, *]) | (simp only [z5, z4, go_sem, *]))
   all_goals try contradiction
   refine ⟨_, (by omega), [some 0, some 1, some 5], [], _, _, _, (by (simp only [Weak, go_sem, List.map_append, List.map_set, *] <;> (try simp (disch := omega) only [q9]) <;> (try simp) <;> (try omega))), k + 1, rfl, (by omega), (by trivial), rfl, rfl, rfl⟩
  ·have hk3 : ¬ (k : Int) < H.length := by omega
   have e2 : H.take k = H := List.take_of_length_le (by omega)
   have e3 : k = H.length := by omega
   subst e3
   clear sF1
   repeat' (first | (show z3 ..; first | (refine Qr rfl ?_; try intro _ hK; try simp only [go_sem, *]) | (refine Qi rfl rfl rfl rfl (fun hb _ hK => ?_) (fun hb => ?_) <;> (have hc := hb; try simp only [go_sem] at hc; simp only [go_sem, *]))) | (show Hold ..; first | refine Qh rfl ?_ | refine q6 rfl mixed (by kernel_rfl) ?_ | (refine z7 rfl ⟨_, rfl, fun hb => ?_, fun hb => ?_⟩ <;> (have hc := hb; try simp only [go_sem] at hc)) | refine z8 rfl ?_) | (refine Qb ?_ ?_; focus kernel_rfl) | ((with_reducible refine And.intro ?_ ?_); focus omega) | (refine z6 hK ?_; clear hK; simp only [go_sem, *]) | (simp only [z5, z4, go_sem, *]))
   all_goals try contradiction
   refine ⟨_, (by omega), [some 0, some 4], [2], _, _, _, (by (simp only [Weak, go_sem, List.map_append, List.map_set, *] <;> (try simp (disch := omega) only [q9]) <;> (try simp) <;> (try omega))), i + 1, rfl, (by omega), (by trivial), rfl, rfl, rfl⟩
 ·have hi3 : ¬ (i : Int) < L.length := by omega
  have e : L.take i = L := List.take_of_length_le (by omega)
  have e3 : i = L.length := by omega
  subst e3
  clear sL sF
  repeat' (first | (show z3 ..; first | (refine Qr rfl ?_; try intro _ hK; try simp only [go_sem, *]) | (refine Qi rfl rfl rfl rfl (fun hb _ hK => ?_) (fun hb => ?_) <;> (have hc := hb; try simp only [go_sem] at hc; simp only [go_sem, *]))) | (show Hold ..; first | refine Qh rfl ?_ | refine q6 rfl mixed (by kernel_rfl) ?_ | (refine z7 rfl ⟨_, rfl, fun hb => ?_, fun hb => ?_⟩ <;> (have hc := hb; try simp only [go_sem] at hc)) | refine z8 rfl ?_) | (refine Qb ?_ ?_; focus kernel_rfl) | ((with_reducible refine And.intro ?_ ?_); focus omega) | (refine z6 hK ?_; clear hK; simp only [go_sem, *]) | (simp only [z5, z4, go_sem, *]))
  all_goals try contradiction
  refine ⟨[_, _], [], [1], ⟨rfl, rfl, trivial⟩, ?_⟩
  simp only [go_sem, *]
  intro x hx
  obtain ⟨y, _, rfl⟩ := List.mem_map.1 hx
  rfl
end Go.Abs

namespace Go.Abs
open Go Go.Proofs Tryz
attribute [local irreducible] z3 Hold q7
theorem zPq (nums : List Int) (h : nums.length ≤ 4294967296) : zLJ prog 9 [l6 nums] [] (bV true) [] := by
 have s1 := zK3 nums
 have s2 := zNA (zBy nums) 4 2 3 1 h (by omega) (by omega) (by omega) (by omega)
 have sm := zNC (d := zBy nums) (houses := 4) (steps := 2) (ways := 3) (facts := 1) (by omega) (by omega) (by omega) (by omega)
 generalize zMj (zBy nums) 4 2 3 1 = S at *
 obtain ⟨s, d1⟩ := S
 simp only at s2 sm
 have o := sm.told
 have v := o.first
 have hct := v.count
 have h3 := o.steps
 have hl := K3 o.steps (fun w hw => (o.ways w hw).2.1)
 have sH := zK2 s.first (by have := v.len; omega) (fun l hl => by have := (v.rows l hl).len; omega) (by omega)
 have sA := zNy s o
 have hsm : ∀ t, t ∈ t8 s → ∀ x, x ∈ y4 s.first → (t.now x).length ≤ 1000 := fun t hm x hx => by have := (zCs v t hm).small h3 hx; omega
 obtain ⟨B, M, hBM⟩ : ∃ B M, zMf (V3 s) 0 (-1) (t8 s).length = (B, M) := ⟨_, _, rfl⟩
 have hres := zOM s B M hBM
 have sK : ∀ R, zMA (K6 s) R → zLJ prog 46 [s.enc] [] R [] := fun R hR => zGi s (zNH o) R hR
 have h0 : zMf ((V3 s).drop 0) 0 (-1) (t8 s).length = (B, M) := hBM
 have sw := zK8
 have hgl : (V3 s).length = (y4 s.first).length := by simp [V3]
 have hgd : ∀ k, k < (y4 s.first).length → (V3 s).getD k default = p9 (t8 s) ((y4 s.first).getD k default) := fun k hk => by simp [V3, List.getD, hk]
 clear hBM sm h
 generalize V3 s = G at *
 generalize t8 s = L at *
 generalize K6 s = AK at *
 generalize y4 s.first = H at *
 have hw1 : IntKind.i64.wrap (-1) = (-1 : Int) := wrap_i64 (by omega) (by omega)
 refine y3 func9 rfl (fun E hE => ?_); simp only [go_sem, ntmps9]
 repeat' (first | (show z3 ..; first | (refine Qr rfl ?_; try intro _ hK; try simp only [go_sem, *]) | (refine Qi rfl rfl rfl rfl (fun hb _ hK => ?_) (fun hb => ?_) <;> (have hc := hb; try simp only [go_sem] at hc; simp only [go_sem, *]))) | (show Hold ..; first | refine Qh rfl ?_ | refine q6 rfl mixed (by kernel_rfl) ?_ | (refine z7 rfl ⟨_, rfl, fun hb => ?_, fun hb => ?_⟩ <;> (have hc := hb; try simp only [go_sem] at hc)) | refine z8 rfl ?_) | (refine Qb ?_ ?_; focus kernel_rfl) | (show q7 ..; first | (refine v5 (s1) ?_ ?_ ?_ ?_; (focus (simp only [go_sem, *]; done)); (focus (first | (simp; done) | (simp [go_sem]; done))); (focus (first | (simp; done) | (simp [go_sem]; done))); simp only [go_sem, *]) | (refine x8 [0] [] (s2) (by simp) ?_ ?_ (by simp) (.inl rfl) ?_ ?_ ?_; (focus (simp only [go_sem, *]; done)); (focus (simp only [go_sem, *]; done)); (focus (first | (simp; done) | (simp [go_sem]; done))); (focus (first | (simp; done) | (simp [go_sem]; done))); simp only [go_sem, *]) | (refine v5 (sH) ?_ ?_ ?_ ?_; (focus (simp only [go_sem, *]; done)); (focus (first | (simp; done) | (simp [go_sem]; done))); (focus (first | (simp; done) | (simp [go_sem]; done))); simp only [go_sem, *]) | (refine q8 (sA) ?_ ?_; (focus (simp only [go_sem, *]; done)); simp only [go_sem, *])) | ((with_reducible refine And.intro ?_ ?_); focus omega) | (refine z6 hK ?_; clear hK; simp only [go_sem, *]) | (simp only [z5, z4, go_sem, *]))
 all_goals try contradiction
 clear s1 s2 sH sA hw1
 refine y8 rfl (fun zn zN zenv zAs => ∃ (k : Nat) (b : Int) (m : Nat), zn = (H.length) - k ∧ k ≤ (H.length) ∧ (zMf (G.drop k) k b m = (B, M) ∧ m ≤ L.length) ∧ zN = 115 ∧ zenv = [(9, iV k), (8, iV m), (7, iV b), (5, .list (L.map fun t => .list (zP0 H t.now))), (4, r8 H), (3, .ptr 0 0)] ∧ zAs = [zP5 s]) (H.length) ⟨[some 1], [2], _, _, _, (by (simp only [Weak, go_sem, List.map_append, List.map_set, *] <;> (try simp (disch := omega) only [q9]) <;> (try simp) <;> (try omega))), 0, -1, L.length, (by simp), (by simp), (by exact ⟨h0, Nat.le_refl _⟩), rfl, rfl, rfl⟩ ?_; rintro _ _ _ _ ⟨k, b, m, rfl, hk, hP, rfl, rfl, rfl⟩
 clear h0
 obtain ⟨hP, hml⟩ := hP
 by_cases hk : k < H.length
 ·have hk3 : (k : Int) < H.length := by omega
  have hm := w6 hk
  have hg := hgd k hk
  have hGl := zBK L (H.getD k default)
  have hyes := zOL (g := G) (i := k) (m := m) (b := b) (by omega)
  have hno := zOK (g := G) (i := k) (m := m) (b := b) (by omega)
  rw [hg] at hyes hno
  have hG0 : (L.drop 0).foldl (fun m x => max m (e7 L (H.getD k default) x)) 0 = p9 L (H.getD k default) := rfl
  generalize p9 L (H.getD k default) = gk at *
  repeat' (first | (show z3 ..; first | (refine Qr rfl ?_; try intro _ hK; try simp only [go_sem, *]) | (refine Qi rfl rfl rfl rfl (fun hb _ hK => ?_) (fun hb => ?_) <;> (have hc := hb; try simp only [go_sem] at hc; simp only [go_sem, *]))) | (show Hold ..; first | refine Qh rfl ?_ | refine q6 rfl mixed (by kernel_rfl) ?_ | (refine z7 rfl ⟨_, rfl, fun hb => ?_, fun hb => ?_⟩ <;> (have hc := hb; try simp only [go_sem] at hc)) | refine z8 rfl ?_) | (refine Qb ?_ ?_; focus kernel_rfl) | ((with_reducible refine And.intro ?_ ?_); focus omega) | (refine z6 hK ?_; clear hK; simp only [go_sem, *]) | (simp only [z5, z4, go_sem, *]))
  all_goals try contradiction
  refine y8 rfl (fun zn zN zenv zAs => ∃ (i : Nat) (mo : Nat), zn = (L.length) - i ∧ i ≤ (L.length) ∧ ((L.drop i).foldl (fun m x => max m (e7 L (H.getD k default) x)) mo = gk) ∧ zN = 115 ∧ zenv = [(11, iV i), (10, iV mo), (9, iV k), (8, iV m), (7, iV b), (5, .list (L.map fun t => .list (zP0 H t.now))), (4, r8 H), (3, .ptr 0 0)] ∧ zAs = [zP5 s]) (L.length) ⟨[some 0], [], _, _, _, (by (simp only [Weak, go_sem, List.map_append, List.map_set, *] <;> (try simp (disch := omega) only [q9]) <;> (try simp) <;> (try omega))), 0, 0, (by simp), (by simp), (by exact hG0), rfl, rfl, rfl⟩ ?_; rintro _ _ _ _ ⟨i, mo, rfl, hi, hQ, rfl, rfl, rfl⟩
  clear hG0
  by_cases hi : i < L.length
  ·have hi3 : (i : Int) < L.length := by omega
   rw [zEa hi] at hQ
   have hxl := hsm _ (w6 hi) _ hm
   have hsl := zCI L (H.getD k default) (L.getD i default)
   have hQ0 : 0 + (L.drop 0).countP (fun y => decide ((L.getD i default).now (H.getD k default) = y.now (H.getD k default))) = e7 L (H.getD k default) (L.getD i default) := by rw [List.drop_zero, Nat.zero_add]; rfl
   generalize e7 L (H.getD k default) (L.getD i default) = sn at *
   repeat' (first | (show z3 ..; first | (refine Qr rfl ?_; try intro _ hK; try simp only [go_sem, *]) | (refine Qi rfl rfl rfl rfl (fun hb _ hK => ?_) (fun hb => ?_) <;> (have hc := hb; try simp only [go_sem] at hc; simp only [go_sem, *]))) | (show Hold ..; first | refine Qh rfl ?_ | refine q6 rfl mixed (by kernel_rfl) ?_ | (refine z7 rfl ⟨_, rfl, fun hb => ?_, fun hb => ?_⟩ <;> (have hc := hb; try simp only [go_sem] at hc)) | refine z8 rfl ?_) | (refine Qb ?_ ?_; focus kernel_rfl) | ((with_reducible refine And.intro ?_ ?_); focus omega) | (refine z6 hK ?_; clear hK; simp only [go_sem, *]) | (simp only [z5, z4, go_sem, *]))
   all_goals try contradiction
   refine y8 rfl (fun zn zN zenv zAs => ∃ (j : Nat) (n : Nat), zn = (L.length) - j ∧ j ≤ (L.length) ∧ (n + (L.drop j).countP (fun y => decide ((L.getD i default).now (H.getD k default) = y.now (H.getD k default))) = sn) ∧ zN = 115 ∧ zenv = [(13, iV j), (12, iV n), (11, iV i), (10, iV mo), (9, iV k), (8, iV m), (7, iV b), (5, .list (L.map fun t => .list (zP0 H t.now))), (4, r8 H), (3, .ptr 0 0)] ∧ zAs = [zP5 s]) (L.length) ⟨[some 0], [], _, _, _, (by (simp only [Weak, go_sem, List.map_append, List.map_set, *] <;> (try simp (disch := omega) only [q9]) <;> (try simp) <;> (try omega))), 0, 0, (by simp), (by simp), (by exact hQ0), rfl, rfl, rfl⟩ ?_; rintro _ _ _ _ ⟨j, n, rfl, hj, hR, rfl, rfl, rfl⟩
   clear hQ0
   by_cases hj : j < L.length
   ·have hj3 : (j : Int) < L.length := by omega
    rw [zDV hj] at hR
    have sE := zGq ((L.getD i default).now (H.getD k default)) ((L.getD j default).now (H.getD k default)) (by omega)
    cases hd : decide ((L.getD i default).now (H.getD k default) = (L.getD j default).now (H.getD k default)) with
    | true =>
     rw [hd] at sE hR
     clear hd hyes hno
     repeat' (first | (show z3 ..; first | (refine Qr rfl ?_; try intro _ hK; try simp only [go_sem, *]) | (refine Qi rfl rfl rfl rfl (fun hb _ hK => ?_) (fun hb => ?_) <;> (have hc := hb; try simp only [go_sem] at hc; simp only [go_sem, *]))) | (show Hold ..; first | refine Qh rfl ?_ | refine q6 rfl mixed (by kernel_rfl) ?_ | (refine z7 rfl ⟨_, rfl, fun hb => ?_, fun hb => ?_⟩ <;> (have hc := hb; try simp only [go_sem] at hc)) | refine z8 rfl ?_) | (refine Qb ?_ ?_; focus kernel_rfl) | (show q7 ..; first | (refine q8 (sE) ?_ ?_; (focus (simp only [go_sem, *]; done)); simp only [go_sem, *])) | ((with_reducible refine And.intro ?_ ?_); focus omega) | (refine z6 hK ?_; clear hK; simp only [go_sem, *]) | (simp only [z5, z4, go_sem, *]))
     all_goals try contradiction
     refine ⟨_, (by omega), [some 0], [], _, _, _, (by (simp only [Weak, go_sem, List.map_append, List.map_set, *] <;> (try simp (disch := omega) only [q9]) <;> (try simp) <;> (try omega))), j + 1, n + 1, rfl, (by omega), (by rw [← hR]; simp; omega), rfl, rfl, rfl⟩
    | false =>
     rw [hd] at sE hR
     clear hd hyes hno
     repeat' (first | (show z3 ..; first | (refine Qr rfl ?_; try intro _ hK; try simp only [go_sem, *]) | (refine Qi rfl rfl rfl rfl (fun hb _ hK => ?_) (fun hb => ?_) <;> (have hc := hb; try simp only [go_sem] at hc; simp only [go_sem, *]))) | (show Hold ..; first | refine Qh rfl ?_ | refine q6 rfl mixed (by kernel_rfl) ?_ | (refine z7 rfl ⟨_, rfl, fun hb => ?_, fun hb => ?_⟩ <;> (have hc := hb; try simp only [go_sem] at hc)) | refine z8 rfl ?_) | (refine Qb ?_ ?_; focus kernel_rfl) | (show q7 ..; first | (refine q8 (sE) ?_ ?_; (focus (simp only [go_sem, *]; done)); simp only [go_sem, *])) | ((with_reducible refine And.intro ?_ ?_); focus omega) | (refine z6 hK ?_; clear hK; simp only [go_sem, *]) | (simp only [z5, z4, go_sem, *]))
     all_goals try contradiction
     refine ⟨_, (by omega), [some 0], [], _, _, _, (by (simp only [Weak, go_sem, List.map_append, List.map_set, *] <;> (try simp (disch := omega) only [q9]) <;> (try simp) <;> (try omega))), j + 1, n, rfl, (by omega), (by rw [← hR]; simp), rfl, rfl, rfl⟩
   ·have hj3 : ¬ (j : Int) < L.length := by omega
    rw [v4 (by omega)] at hR
    have hn : n = sn := by simpa using hR
    subst hn
    have hmx := zFh mo n
    clear hyes hno
    repeat' (first | (show z3 ..; first | (refine Qr rfl ?_; try intro _ hK; try simp only [go_sem, *]) | (refine Qi rfl rfl rfl rfl (fun hb _ hK => ?_) (fun hb => ?_) <;> (have hc := hb; try simp only [go_sem] at hc; simp only [go_sem, *]))) | (show Hold ..; first | refine Qh rfl ?_ | refine q6 rfl mixed (by kernel_rfl) ?_ | (refine z7 rfl ⟨_, rfl, fun hb => ?_, fun hb => ?_⟩ <;> (have hc := hb; try simp only [go_sem] at hc)) | refine z8 rfl ?_) | (refine Qb ?_ ?_; focus kernel_rfl) | ((with_reducible refine And.intro ?_ ?_); focus omega) | (refine z6 hK ?_; clear hK; simp only [go_sem, *]) | (simp only [z5, z4, go_sem, *]))
    all_goals try contradiction
    refine ⟨_, (by omega), [some 0], [], _, _, _, (by (simp only [Weak, go_sem, List.map_append, List.map_set, *] <;> (try simp (disch := omega) only [q9]) <;> (try simp) <;> (try omega))), i + 1, max mo n, rfl, (by omega), (by exact hQ), rfl, rfl, rfl⟩
  ·have hi3 : ¬ (i : Int) < L.length := by omega
   rw [v4 (by omega)] at hQ
   have hQ2 : mo = gk := hQ
   subst hQ2
   clear hQ
   by_cases c : mo < m
   ·have c3 : (mo : Int) < m := by omega
    rw [hyes c] at hP
    clear hyes hno
    repeat' (first | (show z3 ..; first | (refine Qr rfl ?_; try intro _ hK; try simp only [go_sem, *]) | (refine Qi rfl rfl rfl rfl (fun hb _ hK => ?_) (fun hb => ?_) <;> (have hc := hb; try simp only [go_sem] at hc; simp only [go_sem, *]))) | (show Hold ..; first | refine Qh rfl ?_ | refine q6 rfl mixed (by kernel_rfl) ?_ | (refine z7 rfl ⟨_, rfl, fun hb => ?_, fun hb => ?_⟩ <;> (have hc := hb; try simp only [go_sem] at hc)) | refine z8 rfl ?_) | (refine Qb ?_ ?_; focus kernel_rfl) | ((with_reducible refine And.intro ?_ ?_); focus omega) | (refine z6 hK ?_; clear hK; simp only [go_sem, *]) | (simp only [z5, z4, go_sem, *]))
    all_goals try contradiction
    refine ⟨_, (by omega), [some 0], [], _, _, _, (by (simp only [Weak, go_sem, List.map_append, List.map_set, *] <;> (try simp (disch := omega) only [q9]) <;> (try simp) <;> (try omega))), k + 1, (k : Int), mo, rfl, (by omega), (by exact ⟨hP, by omega⟩), rfl, rfl, rfl⟩
   ·have c3 : ¬ (mo : Int) < m := by omega
    rw [hno c] at hP
    clear hyes hno
    repeat' (first | (show z3 ..; first | (refine Qr rfl ?_; try intro _ hK; try simp only [go_sem, *]) | (refine Qi rfl rfl rfl rfl (fun hb _ hK => ?_) (fun hb => ?_) <;> (have hc := hb; try simp only [go_sem] at hc; simp only [go_sem, *]))) | (show Hold ..; first | refine Qh rfl ?_ | refine q6 rfl mixed (by kernel_rfl) ?_ | (refine z7 rfl ⟨_, rfl, fun hb => ?_, fun hb => ?_⟩ <;> (have hc := hb; try simp only [go_sem] at hc)) | refine z8 rfl ?_) | (refine Qb ?_ ?_; focus kernel_rfl) | ((with_reducible refine And.intro ?_ ?_); focus omega) | (refine z6 hK ?_; clear hK; simp only [go_sem, *]) | (simp only [z5, z4, go_sem, *]))
    all_goals try contradiction
    refine ⟨_, (by omega), [some 0], [], _, _, _, (by (simp only [Weak, go_sem, List.map_append, List.map_set, *] <;> (try simp (disch := omega) only [q9]) <;> (try simp) <;> (try omega))), k + 1, b, m, rfl, (by omega), (by exact ⟨hP, hml⟩), rfl, rfl, rfl⟩
 ·have hk3 : ¬ (k : Int) < H.length := by omega
  rw [v4 (by omega), zMf] at hP
  injection hP with e1 e2
  subst e1 e2
  rcases hres with ⟨rfl, rfl⟩ | ⟨hb0, hbl, rfl⟩
  ·have sK1 := sK _ rfl
   have c : (-1 : Int) < 0 := by decide
   clear sK hgd
   repeat' (first | (show z3 ..; first | (refine Qr rfl ?_; try intro _ hK; try simp only [go_sem, *]) | (refine Qi rfl rfl rfl rfl (fun hb _ hK => ?_) (fun hb => ?_) <;> (have hc := hb; try simp only [go_sem] at hc; simp only [go_sem, *]))) | (show Hold ..; first | refine Qh rfl ?_ | refine q6 rfl mixed (by kernel_rfl) ?_ | (refine z7 rfl ⟨_, rfl, fun hb => ?_, fun hb => ?_⟩ <;> (have hc := hb; try simp only [go_sem] at hc)) | refine z8 rfl ?_) | (refine Qb ?_ ?_; focus kernel_rfl) | (show q7 ..; first | ((first | refine q8 (sK1) ?_ ?_ | refine q8 (sw) ?_ ?_); (focus (simp only [go_sem, *]; done)); simp only [go_sem, *])) | ((with_reducible refine And.intro ?_ ?_); focus omega) | (refine z6 hK ?_; clear hK; simp only [go_sem, *]) | (simp only [z5, z4, go_sem, *]))
   all_goals try contradiction
   (refine ⟨[_], [], [], ⟨rfl, trivial⟩, ?_⟩; simp only [go_sem, *])
  ·have sK1 := sK _ rfl
   obtain ⟨n, rfl⟩ : ∃ n : Nat, b = n := ⟨b.toNat, by omega⟩
   rw [Int.toNat_natCast] at hbl sK1
   have c : ¬ ((n : Nat) : Int) < 0 := by omega
   clear sK hgd
   repeat' (first | (show z3 ..; first | (refine Qr rfl ?_; try intro _ hK; try simp only [go_sem, *]) | (refine Qi rfl rfl rfl rfl (fun hb _ hK => ?_) (fun hb => ?_) <;> (have hc := hb; try simp only [go_sem] at hc; simp only [go_sem, *]))) | (show Hold ..; first | refine Qh rfl ?_ | refine q6 rfl mixed (by kernel_rfl) ?_ | (refine z7 rfl ⟨_, rfl, fun hb => ?_, fun hb => ?_⟩ <;> (have hc := hb; try simp only [go_sem] at hc)) | refine z8 rfl ?_) | (refine Qb ?_ ?_; focus kernel_rfl) | (show q7 ..; first | ((first | refine q8 (sK1) ?_ ?_ | refine q8 (sw) ?_ ?_); (focus (simp only [go_sem, *]; done)); simp only [go_sem, *])) | ((with_reducible refine And.intro ?_ ?_); focus omega) | (refine z6 hK ?_; clear hK; simp only [go_sem, *]) | (simp only [z5, z4, go_sem, *]))
   all_goals try contradiction
   (refine ⟨[_], [], [], ⟨rfl, trivial⟩, ?_⟩; simp only [go_sem, *])
end Go.Abs

