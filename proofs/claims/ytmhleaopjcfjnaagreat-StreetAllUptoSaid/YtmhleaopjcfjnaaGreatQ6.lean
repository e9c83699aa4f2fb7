/-
  WHAT THE PROOF STANDS ON, PART 6: contracts of the program's functions and the logic that they are proved in. No condition.
-/
import Derived.Test.YtmhleaopjcfjnaaGreatQ5
set_option maxRecDepth 100000
set_option maxHeartbeats 4000000
set_option linter.unusedVariables false
set_option linter.unusedSimpArgs false
set_option linter.unusedSectionVars false
namespace Go.Abs
open Go
def zSW (p : Plan) : Nat → Dice → List Change → List Change × Dice
 | 0, d, out => (out, d)
 | n + 1, d, out => zSW p n (zDy d p).2 (out ++ [(zDy d p).1])
def wayN (p : Plan) (ways : Int) (d : Dice) : List Change × Dice := zSW p (zBs 1 ways d).toNat (zA5 1 ways d) []
def zRp (p : Plan) (ways : Int) : Nat → Dice → List (List Change) → List (List Change) × Dice
 | 0, d, out => (out, d)
 | n + 1, d, out => zRp p ways n (wayN p ways d).2 (out ++ [(wayN p ways d).1])
def zTv (l : List House) (d : Dice) : House := l.getD (toN ((l.length : Int) - 1) d).toNat default
def zRi (l : List House) (d : Dice) : Dice := toD ((l.length : Int) - 1) d
def zTq (a b : House) (t : Bool) : Fact := if t = true then ⟨a, a⟩ else ⟨a, b⟩
def zSp (l : List House) (d : Dice) : Fact := zTq (zTv l d) (zTv l (zRi l d)) (zGB 2 (zRi l (zRi l d)))
def zSo (l : List House) (d : Dice) : Dice := zCB 2 (zRi l (zRi l d))
def zRo (l : List House) : Nat → Dice → List Fact → List Fact × Dice
 | 0, d, out => (out, d)
 | n + 1, d, out => if l.length = 0 then (out, d) else zRo l n (zSo l d) (out ++ [zSp l d])
def zSH (p : Plan) (steps ways : Int) (d : Dice) : List (List Change) × Dice := zRp p ways (toN steps d).toNat (toD steps d) []
def zSP (p : Plan) (facts : Int) (d : Dice) : List Fact × Dice := zRo (zAJ p) (toN facts d).toNat (toD facts d) []
def zTe (p : Plan) (a : List (List Change) × Dice) (facts : Int) : Story × Dice := (⟨p, a.1, (zSP p facts a.2).1⟩, (zSP p facts a.2).2)
def zTf (P : Plan × Dice) (steps ways facts : Int) : Story × Dice := zTe P.1 (zSH P.1 steps ways P.2) facts
def zR0 (d : Dice) (houses steps ways facts : Int) : Story × Dice := zTf (zEG d houses) steps ways facts
theorem zSQ (p : Plan) : ∀ (n : Nat) (d : Dice) (out : List Change), (zSW p n d out).2.list = d.list
 | 0, d, out => rfl
 | n + 1, d, out => by rw [zSW, zSQ p n, zMI]
theorem zSj (p : Plan) (w : Int) (d : Dice) : (wayN p w d).2.list = d.list := by unfold wayN; rw [zSQ, zCG]
theorem zSG (p : Plan) (w : Int) : ∀ (n : Nat) (d : Dice) (out : List (List Change)), (zRp p w n d out).2.list = d.list
 | 0, d, out => rfl
 | n + 1, d, out => by rw [zRp, zSG p w n, zSj]
theorem zSv (p : Plan) (s w : Int) (d : Dice) : (zSH p s w d).2.list = d.list := by unfold zSH; rw [zSG, zA2]
theorem zRd (l : List House) (d : Dice) : (zRi l d).list = d.list := zA2 _ _
theorem zTE (l : List House) (d : Dice) : (zSo l d).list = d.list := by unfold zSo; rw [zCj, zRd, zRd]
theorem zSR (d : Dice) (p : Plan) (k s : Int) (h : 1 ≤ k ∧ k ≤ 7) : (zFH d p k s).1.kind = k := by
 unfold zFH
 split
 ·rename_i e; exact e.symm
 ·split
  ·rename_i e; simp only; split <;> exact e.symm
  ·split <;> rfl
theorem zSS (d : Dice) (p : Plan) : betw (zDy d p).1.kind 1 7 = true := by
 have h := zCU (lo := 1) (hi := 7) (by omega) d
 unfold zDy
 rw [zSR _ _ _ _ h, betw_iff]; exact h
theorem zS8 (p : Plan) : ∀ (n : Nat) (d : Dice) (out : List Change), (∀ c, c ∈ out → betw c.kind 1 7 = true) → (zSW p n d out).1.length = out.length + n ∧ ∀ c, c ∈ (zSW p n d out).1 → betw c.kind 1 7 = true
 | 0, d, out, h => ⟨rfl, h⟩
 | n + 1, d, out, h => by
  obtain ⟨h1, h2⟩ := zS8 p n (zDy d p).2 (out ++ [(zDy d p).1]) (fun c hc => by
   rcases List.mem_append.1 hc with hc | hc
   ·exact h c hc
   ·rw [List.mem_singleton.1 hc]; exact zSS d p)
  rw [zSW]
  exact ⟨by rw [h1]; simp; omega, h2⟩
theorem zUL (p : Plan) {w : Int} (hw : 1 ≤ w ∧ w ≤ 3) (d : Dice) : 0 < (wayN p w d).1.length ∧ (wayN p w d).1.length ≤ 3 ∧ ((wayN p w d).1.length : Int) ≤ w ∧ zBr (wayN p w d).1 = 0 := by
 have h := zCU (lo := 1) (hi := w) hw.1 d
 obtain ⟨h1, h2⟩ := zS8 p (zBs 1 w d).toNat (zA5 1 w d) [] (by simp)
 simp only [List.length_nil, Nat.zero_add] at h1
 unfold wayN
 rw [zIa, h1]
 exact ⟨by omega, by omega, by omega, h2⟩
theorem zSh (p : Plan) {w : Int} (hw : 1 ≤ w ∧ w ≤ 3) : ∀ (n : Nat) (d : Dice) (out : List (List Change)), (∀ x, x ∈ out → 0 < x.length ∧ x.length ≤ 3 ∧ (x.length : Int) ≤ w ∧ zBr x = 0) →
  (zRp p w n d out).1.length = out.length + n ∧ ∀ x, x ∈ (zRp p w n d out).1 → 0 < x.length ∧ x.length ≤ 3 ∧ (x.length : Int) ≤ w ∧ zBr x = 0
 | 0, d, out, h => ⟨rfl, h⟩
 | n + 1, d, out, h => by
  obtain ⟨h1, h2⟩ := zSh p hw n (wayN p w d).2 (out ++ [(wayN p w d).1]) (fun c hc => by
   rcases List.mem_append.1 hc with hc | hc
   ·exact h c hc
   ·rw [List.mem_singleton.1 hc]; exact zUL p hw d)
  rw [zRp]
  exact ⟨by rw [h1]; simp; omega, h2⟩
theorem zRy {l : List House} (h : l.length ≠ 0) (d : Dice) : zTv l d ∈ l := by
 have := zL7 (n := (l.length : Int) - 1) (by omega) d
 exact zAT (by omega)
theorem zTr {l : List House} (h : l.length ≠ 0) (d : Dice) : (zSp l d).src ∈ l ∧ (zSp l d).dst ∈ l := by
 unfold zSp zTq
 split
 ·exact ⟨zRy h _, zRy h _⟩
 ·exact ⟨zRy h _, zRy h _⟩
theorem zSY (l : List House) : ∀ (n : Nat) (d : Dice) (out : List Fact), (∀ f, f ∈ out → f.src ∈ l ∧ f.dst ∈ l) → (zRo l n d out).1.length ≤ out.length + n ∧ ∀ f, f ∈ (zRo l n d out).1 → f.src ∈ l ∧ f.dst ∈ l
 | 0, d, out, h => ⟨Nat.le_refl _, h⟩
 | n + 1, d, out, h => by
  rw [zRo]
  split
  ·exact ⟨by simp, h⟩
  ·rename_i hl
   obtain ⟨h1, h2⟩ := zSY l n (zSo l d) (out ++ [zSp l d]) (fun c hc => by
    rcases List.mem_append.1 hc with hc | hc
    ·exact h c hc
    ·rw [List.mem_singleton.1 hc]; exact zTr hl d)
   exact ⟨by simp only [List.length_append, List.length_singleton] at h1; omega, h2⟩
structure Small (s : Story) (steps ways facts : Int) : Prop where
 told : Told s
 steps : (s.steps.length : Int) ≤ steps
 ways : ∀ w, w ∈ s.steps → (w.length : Int) ≤ ways
 facts : (s.facts.length : Int) ≤ facts
 dst : ∀ f, f ∈ s.facts → f.dst ∈ zAJ s.first
theorem zTG {d : Dice} {houses steps ways facts : Int} (hh : houses ≤ 8) (hs : 0 ≤ steps ∧ steps ≤ 3) (hw : 1 ≤ ways ∧ ways ≤ 3) (hf : 0 ≤ facts ∧ facts ≤ 4) : Small (zR0 d houses steps ways facts).1 steps ways facts := by
 have v := zPf (d := d) hh
 unfold zR0
 generalize zEG d houses = P at *
 obtain ⟨p, d1⟩ := P
 simp only at v
 have n1 := zL7 hs.1 d1
 obtain ⟨a1, a2⟩ := zSh p hw (toN steps d1).toNat (toD steps d1) [] (by simp)
 unfold zTf zTe zSH
 generalize zRp p ways (toN steps d1).toNat (toD steps d1) [] = A at *
 obtain ⟨w, d2⟩ := A
 simp only [List.length_nil, Nat.zero_add] at a1 a2
 have n2 := zL7 hf.1 d2
 obtain ⟨b1, b2⟩ := zSY (zAJ p) (toN facts d2).toNat (toD facts d2) [] (by simp)
 unfold zSP
 generalize zRo (zAJ p) (toN facts d2).toNat (toD facts d2) [] = B at *
 obtain ⟨f, d3⟩ := B
 simp only [List.length_nil, Nat.zero_add] at b1 b2
 refine ⟨⟨v, ?_, fun x hx => ?_, ?_, fun x hx => ?_⟩, ?_, fun x hx => ?_, ?_, fun x hx => (b2 x hx).2⟩
 ·simp only; omega
 ·have := a2 x hx; exact ⟨this.1, this.2.1, this.2.2.2⟩
 ·simp only; omega
 ·obtain ⟨h1, h2⟩ := b2 x hx
  obtain ⟨m1, m2, m3⟩ := mem_houses.1 h2
  refine ⟨h1, betw_iff.2 ⟨m1, by simp only; omega⟩, ?_⟩
  exact (v.row _).ok _ m3
 ·simp only; omega
 ·exact (a2 x hx).2.2.1
 ·simp only; omega
theorem zTh {s : Story} (t : Told s) : zBD s = 0 := by
 have h1 := t.steps
 have h2 := t.facts
 unfold zBD
 rw [if_pos ((zBY _).2 t.first), if_neg (by omega)]
 unfold zCC
 rw [if_pos (stepsErr_zero.2 t.ways)]
 unfold zD1
 rw [if_neg (by omega)]
 exact factsErr_zero.2 t.fact
end Go.Abs

namespace Go.Abs
open Go
@[reducible] def Truth.encR (p : Plan) (t : Truth) : AV := .agg [.list (t.ways.map iV), .list (t.fin.map zAM), .list ((zAJ p).map fun h => zAi (t.now h))]
attribute [go_sem] Truth.encR
def zR3 (s : Story) : Nat → Truth → List Truth
 | 0, t => [t]
 | n + 1, t => (List.range' 0 (zCe s t.ways.length).length).flatMap fun i => if can t.fin ((zCe s t.ways.length).getD i default) = 0 then zR3 s n (zEl t ((zCe s t.ways.length).getD i default) i) else []
def zUY (s : Story) (n : Nat) (t : Truth) (i : Nat) : List Truth :=
 (List.range' i ((zCe s t.ways.length).length - i)).flatMap fun i => if can t.fin ((zCe s t.ways.length).getD i default) = 0 then zR3 s n (zEl t ((zCe s t.ways.length).getD i default) i) else []
theorem zR1 {s : Story} : ∀ (n : Nat) (t : Truth), (zR3 s n t).filter (zGu s.facts) = zC2 s n t
 | 0, t => by
  rw [zR3, zEZ]
  by_cases h : zGu s.facts t = true
  ·rw [if_pos h, List.filter_cons_of_pos h]; rfl
  ·rw [if_neg h, List.filter_cons_of_neg h]; rfl
 | n + 1, t => by
  rw [zR3, zC2, zCJ]
  refine zCZ (fun i _ => ?_)
  split
  ·exact zR1 n _
  ·rfl
def zTL (s : Story) : List Truth := zR3 s s.steps.length (zEu s)
theorem zTA (s : Story) : (zTL s).filter (zGu s.facts) = zAn s := zR1 _ _
theorem zS1 {s : Story} : ∀ (n : Nat) {t : Truth}, TOk s n t → ∀ x, x ∈ zR3 s n t → TOk s 0 x
 | 0, t, o, x, hx => by
  rw [zR3] at hx
  rw [List.mem_singleton.1 hx]; exact o
 | n + 1, t, o, x, hx => by
  rw [zR3] at hx
  obtain ⟨i, _, hx⟩ := List.mem_flatMap.1 hx
  split at hx
  ·rename_i hc
   exact zS1 n (o.next hc i) x hx
  ·simp at hx
theorem zUV {s : Story} (v : Valid s.first) : ∀ x, x ∈ zTL s → TOk s 0 x := zS1 _ (zHY v)
def carL (m : List Move) (l : List House) : List House := (m.filter fun x => decide (x.src ∈ l)).map Move.dst
end Go.Abs

namespace Go.Abs
open Go
def suf (s : Story) : Nat → Nat → List (List Int)
 | 0, _ => [[]]
 | n + 1, k => (List.range' 0 (zCe s k).length).flatMap fun (i : Nat) => (suf s n (k + 1)).map fun r => (i : Int) :: r
def zRY (s : Story) (n k i : Nat) : List (List Int) := (List.range' i ((zCe s k).length - i)).flatMap fun (i : Nat) => (suf s n (k + 1)).map fun r => (i : Int) :: r
theorem zT5 {s : Story} {n k : Nat} : suf s (n + 1) k = zRY s n k 0 := by rw [suf, zRY, Nat.sub_zero]
theorem zSi {s : Story} {n k i : Nat} (h : i < (zCe s k).length) : zRY s n k i = ((suf s n (k + 1)).map fun r => (i : Int) :: r) ++ zRY s n k (i + 1) := by
 unfold zRY
 rw [show (zCe s k).length - i = ((zCe s k).length - (i + 1)) + 1 by omega, List.range'_succ, List.flatMap_cons]
theorem zSx {s : Story} {n k i : Nat} (h : (zCe s k).length ≤ i) : zRY s n k i = [] := by
 unfold zRY
 rw [show (zCe s k).length - i = 0 by omega]; rfl
theorem zTj {s : Story} {N : Nat} (hw : ∀ w, w ∈ s.steps → w.length ≤ N) (k : Nat) : (zCe s k).length ≤ N := by
 unfold zCe
 by_cases h : k < s.steps.length
 ·exact hw _ (zAT h)
 ·have e : s.steps[k]? = none := List.getElem?_eq_none (by omega)
  simp only [List.getD, e, Option.getD_none]; show ([] : List Change).length ≤ N; simp
theorem zRr {α β : Type} {f : α → List β} {N : Nat} : ∀ {l : List α}, (∀ a, a ∈ l → (f a).length ≤ N) → (l.flatMap f).length ≤ l.length * N
 | [], _ => by simp
 | a :: r, h => by
  have h1 := h a (by simp)
  have h2 := zRr (l := r) (fun b hb => h b (by simp [hb]))
  rw [List.flatMap_cons, List.length_append, List.length_cons, Nat.succ_mul]; omega
theorem zSy {s : Story} {N : Nat} (hw : ∀ w, w ∈ s.steps → w.length ≤ N) : ∀ n k, (suf s n k).length ≤ N ^ n
 | 0, k => by simp [suf]
 | n + 1, k => by
  rw [suf]
  refine Nat.le_trans (zRr (N := N ^ n) (fun i _ => by rw [List.length_map]; exact zSy hw n (k + 1))) ?_
  rw [List.length_range', Nat.pow_succ, Nat.mul_comm]
  exact Nat.mul_le_mul_left _ (zTj hw k)
theorem zSV {s : Story} : ∀ n k w, w ∈ suf s n k → w.length = n ∧ ∀ j, j < n → 0 ≤ w.getD j 0 ∧ w.getD j 0 < (zCe s (k + j)).length
 | 0, k, w, h => by
  rw [suf] at h
  rw [List.mem_singleton.1 h]
  exact ⟨rfl, fun j hj => by omega⟩
 | n + 1, k, w, h => by
  rw [suf] at h
  obtain ⟨i, hi, h⟩ := List.mem_flatMap.1 h
  obtain ⟨r, hr, rfl⟩ := List.mem_map.1 h
  obtain ⟨h1, h2⟩ := zSV n (k + 1) r hr
  have hi2 := List.mem_range'.1 hi
  obtain ⟨z, hz, rfl⟩ := hi2
  refine ⟨by simp [h1], fun j hj => ?_⟩
  cases j with
  | zero => simp; omega
  | succ j =>
   have := h2 j (by omega)
   rw [show k + (j + 1) = k + 1 + j by omega]
   simpa using this
def wayC (s : Story) (t : Truth) (i : Int) : Change := (zCe s t.ways.length).getD i.toNat default
def runT (s : Story) : List Int → Truth → Option Truth
 | [], t => some t
 | i :: r, t => if can t.fin (wayC s t i) = 0 then runT s r (zEl t (wayC s t i) i.toNat) else none
theorem zS5 {s : Story} {i : Int} {r : List Int} {t : Truth} (h : can t.fin (wayC s t i) = 0) : runT s (i :: r) t = runT s r (zEl t (wayC s t i) i.toNat) := by rw [runT, if_pos h]
theorem zTW {s : Story} {i : Int} {r : List Int} {t : Truth} (h : ¬ can t.fin (wayC s t i) = 0) : runT s (i :: r) t = none := by rw [runT, if_neg h]
theorem zSg (t : Truth) (c : Change) (i : Nat) : (zEl t c i).ways.length = t.ways.length + 1 := by simp [zEl]
theorem zSA {s : Story} : ∀ (n : Nat) (t : Truth), zR3 s n t = (suf s n t.ways.length).filterMap fun w => runT s w t
 | 0, t => by simp [zR3, suf, runT]
 | n + 1, t => by
  rw [zR3, suf]
  generalize List.range' 0 (zCe s t.ways.length).length = L
  induction L with
  | nil => rfl
  | cons i r ih =>
   rw [List.flatMap_cons, List.flatMap_cons, List.filterMap_append, ih]
   congr 1
   rw [List.filterMap_map]
   have hc : wayC s t (i : Int) = (zCe s t.ways.length).getD i default := rfl
   split
   ·rename_i h
    rw [zSA n, zSg]
    refine congrFun (congrArg _ (funext fun w => ?_)) _
    exact (zS5 (i := (i : Int)) (r := w) (t := t) (by rw [hc]; exact h)).symm
   ·rename_i h
    symm
    rw [List.filterMap_eq_nil_iff]
    intro w _
    exact zTW (i := (i : Int)) (r := w) (t := t) (by rw [hc]; exact h)
theorem zS6 {s : Story} : ∀ {w : List Int} {t x : Truth}, (∀ i, i ∈ w → 0 ≤ i) → runT s w t = some x → x.ways = t.ways ++ w
 | [], t, x, _, h => by
  rw [runT] at h
  cases h; simp
 | i :: r, t, x, hw, h => by
  rw [runT] at h
  split at h
  ·have e := zS6 (fun j hj => hw j (by simp [hj])) h
   have hi := hw i (by simp)
   rw [e]
   simp only [zEl, List.append_assoc, List.singleton_append]
   rw [Int.toNat_of_nonneg hi]
  ·cases h
def zRe (s : Story) (w : List Int) : Bool := match runT s w (zEu s) with
 | some t => zGu s.facts t
 | none => false
def zRV (s : Story) : List (List Int) := suf s s.steps.length 0
theorem zTU {s : Story} {n k : Nat} {w : List Int} (h : w ∈ suf s n k) : ∀ i, i ∈ w → 0 ≤ i := fun i hi => by
 obtain ⟨h1, h2⟩ := zSV n k w h
 obtain ⟨j, hj, rfl⟩ := List.getElem_of_mem hi
 have := (h2 j (by omega)).1
 simpa [List.getD, hj] using this
theorem zSU (s : Story) : (zRV s).filter (zRe s) = zJi s := by
 unfold zJi zRV
 rw [← zTA]
 unfold zTL
 rw [zSA, show (zEu s).ways.length = 0 from rfl]
 have hn : ∀ w, w ∈ suf s s.steps.length 0 → ∀ i, i ∈ w → 0 ≤ i := fun w hw => zTU hw
 generalize suf s s.steps.length 0 = L at *
 induction L with
 | nil => rfl
 | cons w r ih =>
  have ih := ih (fun x hx => hn x (by simp [hx]))
  rw [List.filter_cons, List.filterMap_cons]
  have ea : zRe s w = (match runT s w (zEu s) with
   | some t => zGu s.facts t
   | none => false) := rfl
  cases e : runT s w (zEu s) with
  | none =>
   rw [e] at ea
   simp only at ea
   rw [ea]; exact ih
  | some t =>
   have ew := zS6 (hn w (by simp)) e
   have ew2 : t.ways = w := by rw [ew]; rfl
   rw [e] at ea
   simp only at ea
   rw [ea]
   simp only
   rw [List.filter_cons]
   by_cases f : zGu s.facts t = true
   ·rw [if_pos f, if_pos f, List.map_cons, ew2, ← ih]
   ·rw [if_neg f, if_neg f, ← ih]
end Go.Abs

namespace Go.Abs
open Go Go.Proofs
attribute [local irreducible] zAC Hold zAN
theorem zRw {h : House} {hs : List House} {F : House → AV} {o : Nat} {H : Nat → AObj} {K : Cont} (ho : H o = .mapo (hs.map House.key) (hs.map F)) (hw : ∀ k, k ∈ hs → k.Wf) (hh : h.Wf)
  (hk : K (.tup [if h ∈ hs then F h else .list [], bV (decide (h ∈ hs))]) [o] []) : zCr Tryz.prog 121 (.mp o) h.enc true H K := by
 obtain ⟨et, h1, h2⟩ := zEd
 unfold zCr
 rw [h1, zEc]
 simp only [h2, ho]
 refine ⟨zDq, zCH h hh, by simp [Value.cells, Value.oneCell'], fun q hq => ?_, ?_⟩
 ·obtain ⟨k, hk, rfl⟩ := List.mem_map.1 hq; exact zCH k (hw k hk)
 ·rw [zLF, zQM]; simpa [zAV] using hk
theorem zRa (p : Plan) (c : Change) (h : House) (hp : p.length ≤ 4294967296) (hwf : h.Wf) :
  Spec Tryz.prog 36 [zAO p, c.enc, h.enc] [] (.tup [.list ((zDw p c h).map House.enc), iV (zCg p c h)]) [] := by
 obtain ⟨s1, s2⟩ := zN0 p c hp
 by_cases e : zBH p c = 0
 ·have s := s2 e
  have hc : check p = 0 := by
   unfold zBH at e
   split at e <;> assumption
  have v := (zBY p).1 hc
  have hcan : can p c = 0 := by unfold zBH at e; rw [if_pos hc] at e; exact e
  have f := Fit.of_can hcan
  have hw := v.wf
  clear s1 s2
  by_cases hm : h ∈ zAJ p
  ·have e1 : zCg p c h = 0 := by unfold zCg; rw [if_pos e, if_pos hm]
   have e2 : zDw p c h = zA8 (mv p c h) := by unfold zDw; rw [if_pos e1]
   have ss := zIS (mv p c h) (zJa f hm) (by have := zLJ f h; omega)
   rw [e1, e2]
   clear e e1 e2
   have hd : decide (h ∈ zAJ p) = true := by simpa using hm
   refine zAF Tryz.func36 rfl (fun E hE => ?_); simp only [go_sem, Tryz.ntmps36]
   repeat' (first | (show zAC ..; first | (refine Qr rfl ?_; try intro K' hK; try simp only [go_sem, *])) | (show Hold ..; first | refine Qh rfl ?_ | (refine zAD rfl ⟨_, rfl, fun hb => ?_, fun hb => ?_⟩ <;> (have hc := hb; try simp only [go_sem] at hc)) | refine zAI rfl ?_) | (show zAN ..; first | (refine zAl (s) ?_ ?_ ?_ ?_; (focus (simp only [go_sem, *]; done)); (focus (first | (simp; done) | (simp [go_sem]; done))); (focus (first | (simp; done) | (simp [go_sem]; done))); simp only [go_sem, *])) | ((with_reducible refine And.intro ?_ ?_); focus omega) | (refine zAB hK ?_; clear hK K'; simp only [go_sem, *]) | (simp only [zAH, zAA, go_sem, *]))
   all_goals first | contradiction | skip
   refine zRw (h := h) (hs := zAJ p) (F := MapV (mv p c)) (by simp only [go_sem]) hw hwf ?_
   rw [if_pos hm, MapV, hd]
   repeat' (first | (show zAC ..; first | (refine Qr rfl ?_; try intro K' hK; try simp only [go_sem, *])) | (show Hold ..; first | refine Qh rfl ?_ | (refine zAD rfl ⟨_, rfl, fun hb => ?_, fun hb => ?_⟩ <;> (have hc := hb; try simp only [go_sem] at hc)) | refine zAI rfl ?_) | (show zAN ..; first | (refine zAK (ss) ?_ ?_; (focus (simp only [go_sem, *]; done)); simp only [go_sem, *])) | ((with_reducible refine And.intro ?_ ?_); focus omega) | (refine zAB hK ?_; clear hK K'; simp only [go_sem, *]) | (simp only [zAH, zAA, go_sem, *]))
   all_goals first | contradiction | skip
   (refine ⟨[_, _], [], [], ⟨rfl, rfl, trivial⟩, ?_⟩; simp only [go_sem, *])
  ·have e1 : zCg p c h = 3 := by unfold zCg; rw [if_pos e, if_neg hm]
   have e2 : zDw p c h = [] := by unfold zDw; rw [e1]; rfl
   rw [e1, e2]
   clear e e1 e2
   have hd : decide (h ∈ zAJ p) = false := by simpa using hm
   refine zAF Tryz.func36 rfl (fun E hE => ?_); simp only [go_sem, Tryz.ntmps36]
   repeat' (first | (show zAC ..; first | (refine Qr rfl ?_; try intro K' hK; try simp only [go_sem, *])) | (show Hold ..; first | refine Qh rfl ?_ | (refine zAD rfl ⟨_, rfl, fun hb => ?_, fun hb => ?_⟩ <;> (have hc := hb; try simp only [go_sem] at hc)) | refine zAI rfl ?_) | (show zAN ..; first | (refine zAl (s) ?_ ?_ ?_ ?_; (focus (simp only [go_sem, *]; done)); (focus (first | (simp; done) | (simp [go_sem]; done))); (focus (first | (simp; done) | (simp [go_sem]; done))); simp only [go_sem, *])) | ((with_reducible refine And.intro ?_ ?_); focus omega) | (refine zAB hK ?_; clear hK K'; simp only [go_sem, *]) | (simp only [zAH, zAA, go_sem, *]))
   all_goals first | contradiction | skip
   refine zRw (h := h) (hs := zAJ p) (F := MapV (mv p c)) (by simp only [go_sem]) hw hwf ?_
   rw [if_neg hm, hd]
   repeat' (first | (show zAC ..; first | (refine Qr rfl ?_; try intro K' hK; try simp only [go_sem, *])) | (show Hold ..; first | refine Qh rfl ?_ | (refine zAD rfl ⟨_, rfl, fun hb => ?_, fun hb => ?_⟩ <;> (have hc := hb; try simp only [go_sem] at hc)) | refine zAI rfl ?_) | ((with_reducible refine And.intro ?_ ?_); focus omega) | (refine zAB hK ?_; clear hK K'; simp only [go_sem, *]) | (simp only [zAH, zAA, go_sem, *]))
   all_goals first | contradiction | skip
   (refine ⟨[_, _], [], [], ⟨rfl, rfl, trivial⟩, ?_⟩; simp only [go_sem, *])
 ·have s := s1 e
  have e1 : zCg p c h = zBH p c := by unfold zCg; rw [if_neg e]
  have e2 : zDw p c h = [] := by unfold zDw; rw [e1, if_neg e]
  have e3 : (zBH p c == 0) = false := by rw [beq_eq_false_iff_ne]; exact e
  rw [e1, e2]
  clear s1 s2 e1 e2
  generalize zBH p c = er at *
  refine zAF Tryz.func36 rfl (fun E hE => ?_); simp only [go_sem, Tryz.ntmps36]
  repeat' (first | (show zAC ..; first | (refine Qr rfl ?_; try intro K' hK; try simp only [go_sem, *])) | (show Hold ..; first | refine Qh rfl ?_ | (refine zAD rfl ⟨_, rfl, fun hb => ?_, fun hb => ?_⟩ <;> (have hc := hb; try simp only [go_sem] at hc)) | refine zAI rfl ?_) | (show zAN ..; first | (refine zAK (s) ?_ ?_; (focus (simp only [go_sem, *]; done)); simp only [go_sem, *])) | ((with_reducible refine And.intro ?_ ?_); focus omega) | (refine zAB hK ?_; clear hK K'; simp only [go_sem, *]) | (simp only [zAH, zAA, go_sem, *]))
  all_goals first | contradiction | skip
  (refine ⟨[_, _], [], [], ⟨rfl, rfl, trivial⟩, ?_⟩; simp only [go_sem, *])
end Go.Abs

namespace Go.Abs
open Go Go.Proofs
attribute [local irreducible] zAC Hold zAN
def SsP (p : Plan) (ways : Int) (k : Nat) (dd : Dice) (acc : List (List Change)) (R : List (List Change) × Dice) : Prop := zRp p ways k dd acc = R ∧ dd.list.length ≤ 4294967296 ∧ acc.length + k ≤ 3
theorem SsP.next {p : Plan} {ways : Int} {dd : Dice} {k : Nat} {acc : List (List Change)} {R : List (List Change) × Dice} (h : SsP p ways (k + 1) dd acc R) : SsP p ways k (wayN p ways dd).2 (acc ++ [(wayN p ways dd).1]) R := by
 obtain ⟨h1, h2, h3⟩ := h
 exact ⟨h1, by rw [zSj]; exact h2, by simp; omega⟩
def WsP (p : Plan) (k : Nat) (dd : Dice) (acc : List Change) (R : List Change × Dice) : Prop := zSW p k dd acc = R ∧ dd.list.length ≤ 4294967296 ∧ acc.length + k ≤ 3
theorem WsP.next {p : Plan} {dd : Dice} {k : Nat} {acc : List Change} {R : List Change × Dice} (h : WsP p (k + 1) dd acc R) : WsP p k (zDy dd p).2 (acc ++ [(zDy dd p).1]) R := by
 obtain ⟨h1, h2, h3⟩ := h
 exact ⟨h1, by rw [zMI]; exact h2, by simp; omega⟩
def FsP (l : List House) (k : Nat) (dd : Dice) (acc : List Fact) (R : List Fact × Dice) : Prop := zRo l k dd acc = R ∧ dd.list.length ≤ 4294967296 ∧ acc.length + k ≤ 4
theorem FsP.next {l : List House} {dd : Dice} {k : Nat} {acc : List Fact} {R : List Fact × Dice} (hl : l.length ≠ 0) (h : FsP l (k + 1) dd acc R) : FsP l k (zSo l dd) (acc ++ [zSp l dd]) R := by
 obtain ⟨h1, h2, h3⟩ := h
 rw [zRo, if_neg hl] at h1
 exact ⟨h1, by rw [zTE]; exact h2, by simp; omega⟩
theorem zTF (d : Dice) (houses steps ways facts : Int) (h : d.list.length ≤ 4294967296) (hm : houses ≤ 8) (hst : 0 ≤ steps ∧ steps ≤ 3) (hwy : 1 ≤ ways ∧ ways ≤ 3) (hfc : 0 ≤ facts ∧ facts ≤ 4) :
  Spec Tryz.prog 38 [.ptr 0 0, iV houses, iV steps, iV ways, iV facts] [zA3 d] (zR0 d houses steps ways facts).1.enc [zA3 (zR0 d houses steps ways facts).2] := by
 have s2 := zPp d houses h hm
 have v := zPf (d := d) hm
 have hl := zNl d houses
 unfold zR0
 generalize zEG d houses = P at *
 obtain ⟨p, d1⟩ := P
 simp only at s2 v hl
 have hd1 : d1.list.length ≤ 4294967296 := by rw [hl]; exact h
 unfold zTf
 have st := zLi d1 steps hd1 (by omega)
 have hr := zL7 hst.1 d1
 obtain ⟨n, hn⟩ : ∃ n : Nat, toN steps d1 = n := ⟨(toN steps d1).toNat, by omega⟩
 have h0 : SsP p ways (n - 0) (toD steps d1) [] (zSH p steps ways d1) := by
  unfold zSH
  rw [hn]
  exact ⟨by simp, by rw [zA2]; exact hd1, by simp; omega⟩
 have hal := zSv p steps ways d1
 rw [hn] at st hr
 simp only
 generalize zSH p steps ways d1 = R1 at *
 obtain ⟨SW, d3⟩ := R1
 simp only at hal
 have hd3 : d3.list.length ≤ 4294967296 := by rw [hal]; exact hd1
 unfold zTe
 have sf := zLi d3 facts hd3 (by omega)
 have hr2 := zL7 hfc.1 d3
 obtain ⟨m, hmm⟩ : ∃ m : Nat, toN facts d3 = m := ⟨(toN facts d3).toNat, by omega⟩
 have hf0 : FsP (zAJ p) (m - 0) (toD facts d3) [] (zSP p facts d3) := by
  unfold zSP
  rw [hmm]
  exact ⟨by simp, by rw [zA2]; exact hd3, by simp; omega⟩
 rw [hmm] at sf hr2
 simp only
 generalize zSP p facts d3 = R2 at *
 obtain ⟨FT, d5⟩ := R2
 simp only
 have hct := v.count
 have sho := zNy p (by have := v.len; omega) (fun l hl => by have := (v.rows l hl).len; omega) (by omega)
 have hn3 : n ≤ 3 := by omega
 have hm4 : m ≤ 4 := by omega
 clear hn hmm hl hal hd1 hd3 h hst hfc hm
 generalize toD steps d1 = d2 at *
 generalize toD facts d3 = d4 at *
 refine zAF Tryz.func38 rfl (fun E hE => ?_); simp only [go_sem, Tryz.ntmps38]
 repeat' (first | (show zAC ..; first | (refine Qr rfl ?_; try intro K' hK; try simp only [go_sem, *]) | (refine Qi rfl rfl rfl rfl (fun hb K' hK => ?_) (fun hb => ?_) <;> (have hc := hb; try simp only [go_sem] at hc; simp only [go_sem, *]))) | (show Hold ..; first | refine Qh rfl ?_ | refine zAG rfl Tryz.mixed (by kernel_rfl) ?_ | (refine zAD rfl ⟨_, rfl, fun hb => ?_, fun hb => ?_⟩ <;> (have hc := hb; try simp only [go_sem] at hc)) | refine zAI rfl ?_) | (refine Qb ?_ ?_; focus kernel_rfl) | (show zAN ..; first | (refine zAR [0] [] (s2) (by simp) ?_ ?_ (by simp) (.inl rfl) ?_ ?_ ?_; (focus (simp only [go_sem, *]; done)); (focus (simp only [go_sem, *]; done)); (focus (first | (simp; done) | (simp [go_sem]; done))); (focus (first | (simp; done) | (simp [go_sem]; done))); simp only [go_sem, *]) | (refine zAR [0] [] (st) (by simp) ?_ ?_ (by simp) (.inl rfl) ?_ ?_ ?_; (focus (simp only [go_sem, *]; done)); (focus (simp only [go_sem, *]; done)); (focus (first | (simp; done) | (simp [go_sem]; done))); (focus (first | (simp; done) | (simp [go_sem]; done))); simp only [go_sem, *])) | ((with_reducible refine And.intro ?_ ?_); focus omega) | (refine zAB hK ?_; clear hK K'; simp only [go_sem, *]) | (simp only [zAH, zAA, go_sem, *]))
 all_goals first | contradiction | skip
 clear s2 st
 refine zAQ rfl (fun zn zN zenv zAs => ∃ (i : Nat) (dd : Dice) (acc : List (List Change)), zn = (n) - i ∧ i ≤ (n) ∧ (SsP p ways (n - i) dd acc (SW, d3)) ∧ zN = 95 ∧ zenv = [(12, iV ((n - i : Nat) : Int)), (11, .ptr 2 0), (10, .ptr 1 0), (3, iV ways), (4, iV facts), (0, .ptr 0 0)] ∧ zAs = [zA3 dd, .box [nilV, nilV, nilV], .box [.list (p.map zAM), .own 3 1 0 acc.length, nilV], .row 1 (acc.map zCm)]) (n) ⟨[some 0, some 1, some 2, none], [], _, _, _, (by (simp only [Weak, go_sem, List.map_append, List.map_set, *] <;> (try simp (disch := omega) only [zAE]) <;> (try simp) <;> (try omega))), 0, d2, [], (by simp), (by simp), (by exact h0), rfl, rfl, rfl⟩ ?_; rintro _ _ _ _ ⟨i, dd, acc, rfl, hi, hP, rfl, rfl, rfl⟩
 clear h0
 by_cases hi2 : i < n
 ·obtain ⟨k, hk⟩ : ∃ k, n - i = k + 1 := ⟨n - i - 1, by omega⟩
  have hk2 : n - (i + 1) = k := by omega
  rw [hk] at hP ⊢
  have hnx := hP.next
  have hw1 : IntKind.i64.wrap (((k + 1 : Nat) : Int) - 1) = (k : Int) := by rw [wrap_i64 (by omega) (by omega)]; omega
  have hgt : ((k + 1 : Nat) : Int) > 0 := by omega
  obtain ⟨_, hdl, hal⟩ := hP
  have sF := zDH dd 1 ways hdl (by omega) (by omega)
  have hwr := zCU (lo := 1) (hi := ways) hwy.1 dd
  obtain ⟨w, hwn⟩ : ∃ w : Nat, zBs 1 ways dd = w := ⟨(zBs 1 ways dd).toNat, by omega⟩
  have hw0 : WsP p (w - 0) (zA5 1 ways dd) [] (wayN p ways dd) := by
   unfold wayN
   rw [hwn]
   exact ⟨by simp, by rw [zCG]; exact hdl, by simp; omega⟩
  rw [hwn] at sF hwr
  clear hwn
  generalize zA5 1 ways dd = d6 at *
  generalize wayN p ways dd = W at *
  obtain ⟨WL, d7⟩ := W
  simp only at hnx
  repeat' (first | (show zAC ..; first | (refine Qr rfl ?_; try intro K' hK; try simp only [go_sem, *]) | (refine Qi rfl rfl rfl rfl (fun hb K' hK => ?_) (fun hb => ?_) <;> (have hc := hb; try simp only [go_sem] at hc; simp only [go_sem, *]))) | (show Hold ..; first | refine Qh rfl ?_ | refine zAG rfl Tryz.mixed (by kernel_rfl) ?_ | (refine zAD rfl ⟨_, rfl, fun hb => ?_, fun hb => ?_⟩ <;> (have hc := hb; try simp only [go_sem] at hc)) | refine zAI rfl ?_) | (refine Qb ?_ ?_; focus kernel_rfl) | (show zAN ..; first | (refine zAR [0] [] (sF) (by simp) ?_ ?_ (by simp) (.inl rfl) ?_ ?_ ?_; (focus (simp only [go_sem, *]; done)); (focus (simp only [go_sem, *]; done)); (focus (first | (simp; done) | (simp [go_sem]; done))); (focus (first | (simp; done) | (simp [go_sem]; done))); simp only [go_sem, *])) | ((with_reducible refine And.intro ?_ ?_); focus omega) | (refine zAB hK ?_; clear hK K'; simp only [go_sem, *]) | (simp only [zAH, zAA, go_sem, *]))
  all_goals first | contradiction | skip
  clear sF
  refine zAQ rfl (fun zn zN zenv zAs => ∃ (j : Nat) (de : Dice) (cs : List Change), zn = (w) - j ∧ j ≤ (w) ∧ (WsP p (w - j) de cs (WL, d7)) ∧ zN = 95 ∧ zenv = [(14, iV ((w - j : Nat) : Int)), (13, .ptr 4 0), (12, iV ((k + 1 : Nat) : Int)), (11, .ptr 2 0), (10, .ptr 1 0), (3, iV ways), (4, iV facts), (0, .ptr 0 0)] ∧ zAs = [zA3 de, .box [nilV, nilV, nilV], .box [.list (p.map zAM), .own 3 1 0 acc.length, nilV], .row 1 (acc.map zCm), .box [.own 5 7 0 cs.length], .row 7 (cs.map Change.enc)]) (w) ⟨[some 0, some 1, some 2, some 3, some 4, none], [], _, _, _, (by (simp only [Weak, go_sem, List.map_append, List.map_set, *] <;> (try simp (disch := omega) only [zAE]) <;> (try simp) <;> (try omega))), 0, d6, [], (by simp), (by simp), (by exact hw0), rfl, rfl, rfl⟩ ?_; rintro _ _ _ _ ⟨j, de, cs, rfl, hj, hQ, rfl, rfl, rfl⟩
  clear hw0
  by_cases hj2 : j < w
  ·obtain ⟨b, hb1⟩ : ∃ b, w - j = b + 1 := ⟨w - j - 1, by omega⟩
   have hb2 : w - (j + 1) = b := by omega
   rw [hb1] at hQ ⊢
   have hny := hQ.next
   have hw2 : IntKind.i64.wrap (((b + 1 : Nat) : Int) - 1) = (b : Int) := by rw [wrap_i64 (by omega) (by omega)]; omega
   have hgt2 : ((b + 1 : Nat) : Int) > 0 := by omega
   obtain ⟨_, hel, hcl⟩ := hQ
   have sC := zNw de p hel v
   generalize zDy de p = C at *
   obtain ⟨c, d8⟩ := C
   simp only at sC hny
   repeat' (first | (show zAC ..; first | (refine Qr rfl ?_; try intro K' hK; try simp only [go_sem, *]) | (refine Qi rfl rfl rfl rfl (fun hb K' hK => ?_) (fun hb => ?_) <;> (have hc := hb; try simp only [go_sem] at hc; simp only [go_sem, *]))) | (show Hold ..; first | refine Qh rfl ?_ | refine zAG rfl Tryz.mixed (by kernel_rfl) ?_ | (refine zAD rfl ⟨_, rfl, fun hb => ?_, fun hb => ?_⟩ <;> (have hc := hb; try simp only [go_sem] at hc)) | refine zAI rfl ?_) | (refine Qb ?_ ?_; focus kernel_rfl) | (show zAN ..; first | (refine zAR [0] [] (sC) (by simp) ?_ ?_ (by simp) (.inl rfl) ?_ ?_ ?_; (focus (simp only [go_sem, *]; done)); (focus (simp only [go_sem, *]; done)); (focus (first | (simp; done) | (simp [go_sem]; done))); (focus (first | (simp; done) | (simp [go_sem]; done))); simp only [go_sem, *])) | ((with_reducible refine And.intro ?_ ?_); focus omega) | (refine zAB hK ?_; clear hK K'; simp only [go_sem, *]) | (simp only [zAH, zAA, go_sem, *]))
   all_goals first | contradiction | skip
   refine ⟨_, (by omega), [some 0, some 1, some 2, some 3, some 4, some 7], [], _, _, _, (by (simp only [Weak, go_sem, List.map_append, List.map_set, *] <;> (try simp (disch := omega) only [zAE]) <;> (try simp) <;> (try omega))), j + 1, d8, cs ++ [c], rfl, (by omega), (by rw [hb2]; exact hny), rfl, rfl, rfl⟩
  ·have hj3 : w - j = 0 := by omega
   rw [hj3] at hQ ⊢
   obtain ⟨hQ1, _, hcl⟩ := hQ
   rw [zSW] at hQ1
   injection hQ1 with hQ1 hQ2
   subst hQ1 hQ2
   repeat' (first | (show zAC ..; first | (refine Qr rfl ?_; try intro K' hK; try simp only [go_sem, *]) | (refine Qi rfl rfl rfl rfl (fun hb K' hK => ?_) (fun hb => ?_) <;> (have hc := hb; try simp only [go_sem] at hc; simp only [go_sem, *]))) | (show Hold ..; first | refine Qh rfl ?_ | refine zAG rfl Tryz.mixed (by kernel_rfl) ?_ | (refine zAD rfl ⟨_, rfl, fun hb => ?_, fun hb => ?_⟩ <;> (have hc := hb; try simp only [go_sem] at hc)) | refine zAI rfl ?_) | (refine Qb ?_ ?_; focus kernel_rfl) | ((with_reducible refine And.intro ?_ ?_); focus omega) | (refine zAB hK ?_; clear hK K'; simp only [go_sem, *]) | (simp only [zAH, zAA, go_sem, *]))
   all_goals first | contradiction | skip
   refine ⟨_, (by omega), [some 0, some 1, some 2, some 7], [], _, _, _, (by (simp only [Weak, go_sem, List.map_append, List.map_set, *] <;> (try simp (disch := omega) only [zAE]) <;> (try simp) <;> (try omega))), i + 1, de, acc ++ [cs], rfl, (by omega), (by rw [hk2]; exact hnx), rfl, rfl, rfl⟩
 ·have hi3 : n - i = 0 := by omega
  rw [hi3] at hP ⊢
  obtain ⟨hP1, _, hal⟩ := hP
  rw [zRp] at hP1
  injection hP1 with hP1 hP2
  subst hP1 hP2
  generalize hho : zAJ p = H at *
  repeat' (first | (show zAC ..; first | (refine Qr rfl ?_; try intro K' hK; try simp only [go_sem, *]) | (refine Qi rfl rfl rfl rfl (fun hb K' hK => ?_) (fun hb => ?_) <;> (have hc := hb; try simp only [go_sem] at hc; simp only [go_sem, *]))) | (show Hold ..; first | refine Qh rfl ?_ | refine zAG rfl Tryz.mixed (by kernel_rfl) ?_ | (refine zAD rfl ⟨_, rfl, fun hb => ?_, fun hb => ?_⟩ <;> (have hc := hb; try simp only [go_sem] at hc)) | refine zAI rfl ?_) | (refine Qb ?_ ?_; focus kernel_rfl) | (show zAN ..; first | (refine zAl (sho) ?_ ?_ ?_ ?_; (focus (simp only [go_sem, *]; done)); (focus (first | (simp; done) | (simp [go_sem]; done))); (focus (first | (simp; done) | (simp [go_sem]; done))); simp only [go_sem, *]) | (refine zAR [0] [] (sf) (by simp) ?_ ?_ (by simp) (.inl rfl) ?_ ?_ ?_; (focus (simp only [go_sem, *]; done)); (focus (simp only [go_sem, *]; done)); (focus (first | (simp; done) | (simp [go_sem]; done))); (focus (first | (simp; done) | (simp [go_sem]; done))); simp only [go_sem, *])) | ((with_reducible refine And.intro ?_ ?_); focus omega) | (refine zAB hK ?_; clear hK K'; simp only [go_sem, *]) | (simp only [zAH, zAA, go_sem, *]))
  all_goals first | contradiction | skip
  clear sho sf
  refine zAQ rfl (fun zn zN zenv zAs => ∃ (j : Nat) (dd2 : Dice) (fs : List Fact), zn = (m) - j ∧ j ≤ (m) ∧ (FsP H (m - j) dd2 fs (FT, d5)) ∧ zN = 95 ∧ zenv = [(16, iV ((m - j : Nat) : Int)), (15, zAi H), (11, .ptr 2 0), (10, .ptr 1 0), (0, .ptr 0 0)] ∧ zAs = [zA3 dd2, .box [nilV, nilV, nilV], .box [.list (p.map zAM), .own 3 1 0 acc.length, .own 4 6 0 fs.length], .row 1 (acc.map zCm), .row 6 (fs.map Fact.enc)]) (m) ⟨[some 0, some 1, some 2, some 3, none], [4], _, _, _, (by (simp only [Weak, go_sem, List.map_append, List.map_set, *] <;> (try simp (disch := omega) only [zAE]) <;> (try simp) <;> (try omega))), 0, d4, [], (by simp), (by simp), (by exact hf0), rfl, rfl, rfl⟩ ?_; rintro _ _ _ _ ⟨j, dd2, fs, rfl, hj, hQ, rfl, rfl, rfl⟩
  clear hf0
  by_cases hj2 : j < m
  ·obtain ⟨b, hb1⟩ : ∃ b, m - j = b + 1 := ⟨m - j - 1, by omega⟩
   have hb2 : m - (j + 1) = b := by omega
   rw [hb1] at hQ ⊢
   have hw2 : IntKind.i64.wrap (((b + 1 : Nat) : Int) - 1) = (b : Int) := by rw [wrap_i64 (by omega) (by omega)]; omega
   have hgt2 : ((b + 1 : Nat) : Int) > 0 := by omega
   by_cases h0 : H.length = 0
   ·have hz : ¬ ((H.length : Nat) : Int) > 0 := by omega
    obtain ⟨hQ1, _, hcl⟩ := hQ
    rw [zRo, if_pos h0] at hQ1
    injection hQ1 with hQ1 hQ2
    subst hQ1 hQ2
    repeat' (first | (show zAC ..; first | (refine Qr rfl ?_; try intro K' hK; try simp only [go_sem, *]) | (refine Qi rfl rfl rfl rfl (fun hb K' hK => ?_) (fun hb => ?_) <;> (have hc := hb; try simp only [go_sem] at hc; simp only [go_sem, *]))) | (show Hold ..; first | refine Qh rfl ?_ | refine zAG rfl Tryz.mixed (by kernel_rfl) ?_ | (refine zAD rfl ⟨_, rfl, fun hb => ?_, fun hb => ?_⟩ <;> (have hc := hb; try simp only [go_sem] at hc)) | refine zAI rfl ?_) | (refine Qb ?_ ?_; focus kernel_rfl) | ((with_reducible refine And.intro ?_ ?_); focus omega) | (refine zAB hK ?_; clear hK K'; simp only [go_sem, *]) | (simp only [zAH, zAA, go_sem, *]))
    all_goals first | contradiction | skip
    refine ⟨[.agg [.list (p.map zAM), .own 3 1 0 acc.length, .own 4 6 0 fs.length]], [some 0], [3, 4], ⟨by simp only [zAY, go_sem], trivial⟩, ?_⟩
    simp only [go_sem, *]
   ·have hz : ((H.length : Nat) : Int) > 0 := by omega
    have hny := hQ.next h0
    obtain ⟨_, hel, hcl⟩ := hQ
    have hwl : IntKind.i64.wrap ((H.length : Int) - 1) = (H.length : Int) - 1 := wrap_i64 (by omega) (by omega)
    have sT1 := zLi dd2 ((H.length : Int) - 1) hel (by omega)
    have sT2 := zLi (zRi H dd2) ((H.length : Int) - 1) (by rw [zRd]; exact hel) (by omega)
    have sO := zJD (zRi H (zRi H dd2)) 2 (by rw [zRd, zRd]; exact hel) (by omega)
    have t1 := zL7 (n := (H.length : Int) - 1) (by omega) dd2
    have t2 := zL7 (n := (H.length : Int) - 1) (by omega) (zRi H dd2)
    change Spec _ _ _ _ _ [zA3 (zRi H dd2)] at sT1
    change Spec _ _ _ _ _ [zA3 (zRi H (zRi H dd2))] at sT2
    change Spec _ _ _ _ _ [zA3 (zSo H dd2)] at sO
    unfold zSp zTv at hny
    obtain ⟨a, ha⟩ : ∃ a : Nat, toN ((H.length : Int) - 1) dd2 = a := ⟨(toN ((H.length : Int) - 1) dd2).toNat, by omega⟩
    obtain ⟨c, hc2⟩ : ∃ a : Nat, toN ((H.length : Int) - 1) (zRi H dd2) = a := ⟨(toN ((H.length : Int) - 1) (zRi H dd2)).toNat, by omega⟩
    rw [ha] at sT1 t1 hny
    rw [hc2] at sT2 t2 hny
    simp only [Int.toNat_natCast] at hny
    clear ha hc2
    have ha : a < H.length := by omega
    have hc3 : c < H.length := by omega
    generalize zSo H dd2 = d9 at *
    generalize zRi H (zRi H dd2) = d8 at *
    generalize zRi H dd2 = d7 at *
    by_cases o : zGB 2 d8 = true
    ·rw [o] at sO hny
     unfold zTq at hny
     rw [if_pos rfl] at hny
     clear o
     repeat' (first | (show zAC ..; first | (refine Qr rfl ?_; try intro K' hK; try simp only [go_sem, *]) | (refine Qi rfl rfl rfl rfl (fun hb K' hK => ?_) (fun hb => ?_) <;> (have hc := hb; try simp only [go_sem] at hc; simp only [go_sem, *]))) | (show Hold ..; first | refine Qh rfl ?_ | refine zAG rfl Tryz.mixed (by kernel_rfl) ?_ | (refine zAD rfl ⟨_, rfl, fun hb => ?_, fun hb => ?_⟩ <;> (have hc := hb; try simp only [go_sem] at hc)) | refine zAI rfl ?_) | (refine Qb ?_ ?_; focus kernel_rfl) | (show zAN ..; first | (refine zAR [0] [] (sT1) (by simp) ?_ ?_ (by simp) (.inl rfl) ?_ ?_ ?_; (focus (simp only [go_sem, *]; done)); (focus (simp only [go_sem, *]; done)); (focus (first | (simp; done) | (simp [go_sem]; done))); (focus (first | (simp; done) | (simp [go_sem]; done))); simp only [go_sem, *]) | (refine zAR [0] [] (sT2) (by simp) ?_ ?_ (by simp) (.inl rfl) ?_ ?_ ?_; (focus (simp only [go_sem, *]; done)); (focus (simp only [go_sem, *]; done)); (focus (first | (simp; done) | (simp [go_sem]; done))); (focus (first | (simp; done) | (simp [go_sem]; done))); simp only [go_sem, *]) | (refine zAR [0] [] (sO) (by simp) ?_ ?_ (by simp) (.inl rfl) ?_ ?_ ?_; (focus (simp only [go_sem, *]; done)); (focus (simp only [go_sem, *]; done)); (focus (first | (simp; done) | (simp [go_sem]; done))); (focus (first | (simp; done) | (simp [go_sem]; done))); simp only [go_sem, *])) | ((with_reducible refine And.intro ?_ ?_); focus omega) | (refine zAB hK ?_; clear hK K'; simp only [go_sem, *]) | (simp only [zAH, zAA, go_sem, *]))
     all_goals first | contradiction | skip
     refine ⟨_, (by omega), [some 0, some 1, some 2, some 3, some 7], [], _, _, _, (by (simp only [Weak, go_sem, List.map_append, List.map_set, *] <;> (try simp (disch := omega) only [zAE]) <;> (try simp) <;> (try omega))), j + 1, d9, fs ++ [⟨H.getD a default, H.getD a default⟩], rfl, (by omega), (by rw [hb2]; exact hny), rfl, rfl, rfl⟩
    ·have o : zGB 2 d8 = false := by simpa using o
     rw [o] at sO hny
     unfold zTq at hny
     rw [if_neg (by decide)] at hny
     clear o
     repeat' (first | (show zAC ..; first | (refine Qr rfl ?_; try intro K' hK; try simp only [go_sem, *]) | (refine Qi rfl rfl rfl rfl (fun hb K' hK => ?_) (fun hb => ?_) <;> (have hc := hb; try simp only [go_sem] at hc; simp only [go_sem, *]))) | (show Hold ..; first | refine Qh rfl ?_ | refine zAG rfl Tryz.mixed (by kernel_rfl) ?_ | (refine zAD rfl ⟨_, rfl, fun hb => ?_, fun hb => ?_⟩ <;> (have hc := hb; try simp only [go_sem] at hc)) | refine zAI rfl ?_) | (refine Qb ?_ ?_; focus kernel_rfl) | (show zAN ..; first | (refine zAR [0] [] (sT1) (by simp) ?_ ?_ (by simp) (.inl rfl) ?_ ?_ ?_; (focus (simp only [go_sem, *]; done)); (focus (simp only [go_sem, *]; done)); (focus (first | (simp; done) | (simp [go_sem]; done))); (focus (first | (simp; done) | (simp [go_sem]; done))); simp only [go_sem, *]) | (refine zAR [0] [] (sT2) (by simp) ?_ ?_ (by simp) (.inl rfl) ?_ ?_ ?_; (focus (simp only [go_sem, *]; done)); (focus (simp only [go_sem, *]; done)); (focus (first | (simp; done) | (simp [go_sem]; done))); (focus (first | (simp; done) | (simp [go_sem]; done))); simp only [go_sem, *]) | (refine zAR [0] [] (sO) (by simp) ?_ ?_ (by simp) (.inl rfl) ?_ ?_ ?_; (focus (simp only [go_sem, *]; done)); (focus (simp only [go_sem, *]; done)); (focus (first | (simp; done) | (simp [go_sem]; done))); (focus (first | (simp; done) | (simp [go_sem]; done))); simp only [go_sem, *])) | ((with_reducible refine And.intro ?_ ?_); focus omega) | (refine zAB hK ?_; clear hK K'; simp only [go_sem, *]) | (simp only [zAH, zAA, go_sem, *]))
     all_goals first | contradiction | skip
     refine ⟨_, (by omega), [some 0, some 1, some 2, some 3, some 7], [], _, _, _, (by (simp only [Weak, go_sem, List.map_append, List.map_set, *] <;> (try simp (disch := omega) only [zAE]) <;> (try simp) <;> (try omega))), j + 1, d9, fs ++ [⟨H.getD a default, H.getD c default⟩], rfl, (by omega), (by rw [hb2]; exact hny), rfl, rfl, rfl⟩
  ·have hj3 : m - j = 0 := by omega
   rw [hj3] at hQ ⊢
   obtain ⟨hQ1, _, hcl⟩ := hQ
   rw [zRo] at hQ1
   injection hQ1 with hQ1 hQ2
   subst hQ1 hQ2
   repeat' (first | (show zAC ..; first | (refine Qr rfl ?_; try intro K' hK; try simp only [go_sem, *]) | (refine Qi rfl rfl rfl rfl (fun hb K' hK => ?_) (fun hb => ?_) <;> (have hc := hb; try simp only [go_sem] at hc; simp only [go_sem, *]))) | (show Hold ..; first | refine Qh rfl ?_ | refine zAG rfl Tryz.mixed (by kernel_rfl) ?_ | (refine zAD rfl ⟨_, rfl, fun hb => ?_, fun hb => ?_⟩ <;> (have hc := hb; try simp only [go_sem] at hc)) | refine zAI rfl ?_) | (refine Qb ?_ ?_; focus kernel_rfl) | ((with_reducible refine And.intro ?_ ?_); focus omega) | (refine zAB hK ?_; clear hK K'; simp only [go_sem, *]) | (simp only [zAH, zAA, go_sem, *]))
   all_goals first | contradiction | skip
   refine ⟨[.agg [.list (p.map zAM), .own 3 1 0 acc.length, .own 4 6 0 fs.length]], [some 0], [3, 4], ⟨by simp only [zAY, go_sem], trivial⟩, ?_⟩
   simp only [go_sem, *]
end Go.Abs

namespace Go.Abs
open Go Go.Proofs
attribute [local irreducible] zAC Hold zAN
@[go_sem, simp] theorem zUS (H : Nat → AObj) (m : List (Option Nat)) (ex : List Nat) (l : List (List Int)) : XpL H m ex (List.map zBe l) (List.map zBe l) ↔ True := ⟨fun _ => trivial, fun _ => zEp (fun x => by simp only [XpF]) _⟩
@[go_sem, simp] theorem zUU (H : Nat → AObj) (m : List (Option Nat)) (ex : List Nat) (l : List (List Int)) (ys zs : List AV) : XpL H m ex (List.map zBe l ++ [.list ys]) (List.map zBe l ++ [.list zs]) ↔ ys = zs := by
 rw [zFK _ (fun z hz => by
  obtain ⟨t, _, rfl⟩ := List.mem_map.1 hz
  simp only [XpF])]
 simp only [XpF]
@[go_sem, simp] theorem zUT (H : Nat → AObj) (m : List (Option Nat)) (ex : List Nat) (l r : List (List Int)) : XpL H m ex (List.map zBe l ++ List.map zBe r) (List.map zBe l ++ List.map zBe r) ↔ True := ⟨fun _ => trivial, fun _ => by rw [← List.map_append]; exact zEp (fun x => by simp only [XpF]) _⟩
@[reducible] def sBox (s : Story) : AObj := .box [.list (s.first.map zAM), .list (s.steps.map zCm), .list (s.facts.map Fact.enc)]
theorem zSO (s : Story) (hs : s.steps.length ≤ 3) (hw : ∀ w, w ∈ s.steps → w.length ≤ 3) : ∀ (n : Nat) (begun : List Int), begun.length + n = s.steps.length →
  Spec Tryz.prog 40 [s.enc, zBe begun] [] (.list (((suf s n begun.length).map fun r => begun ++ r).map zBe)) []
 | 0, begun, hl => by
  have e : ((suf s 0 begun.length).map fun r => begun ++ r) = [begun] := by simp [suf]
  have hq : ((begun.length : Int) == (s.steps.length : Int)) = true := by simp; omega
  rw [e]
  clear e
  refine zAF Tryz.func40 rfl (fun E hE => ?_); simp only [go_sem, Tryz.ntmps40]
  repeat' (first | (show zAC ..; first | (refine Qr rfl ?_; try intro K' hK; try simp only [go_sem, *])) | (show Hold ..; first | refine Qh rfl ?_ | refine zAG rfl Tryz.mixed (by kernel_rfl) ?_ | (refine zAD rfl ⟨_, rfl, fun hb => ?_, fun hb => ?_⟩ <;> (have hc := hb; try simp only [go_sem] at hc)) | refine zAI rfl ?_) | (refine Qb ?_ ?_; focus kernel_rfl) | ((with_reducible refine And.intro ?_ ?_); focus omega) | (refine zAB hK ?_; clear hK K'; simp only [go_sem, *]) | (simp only [zAH, zAA, go_sem, *]))
  all_goals first | contradiction | skip
  refine ⟨[.own 1 1 0 1], [], [1], ⟨rfl, trivial⟩, ?_⟩
  simp only [go_sem, *]
 | n + 1, begun, hl => by
  have IH := fun i : Nat => zSO s hs hw n (begun ++ [(i : Int)]) (by simp; omega)
  have hq : ((begun.length : Int) == (s.steps.length : Int)) = false := by simp; omega
  have hk : begun.length < s.steps.length := by omega
  have hRl : ((suf s (n + 1) begun.length).map fun r => begun ++ r).length ≤ 27 := by
   rw [List.length_map]
   have h1 := zSy hw (n + 1) begun.length
   have h2 : 3 ^ (n + 1) ≤ 3 ^ 3 := Nat.pow_le_pow_right (by omega) (by omega)
   omega
  have hR0 : ([] : List (List Int)) ++ (zRY s n begun.length 0).map (fun r => begun ++ r) = (suf s (n + 1) begun.length).map fun r => begun ++ r := by rw [zT5]; rfl
  generalize ((suf s (n + 1) begun.length).map fun r => begun ++ r) = R at *
  have hWl : (s.steps.getD begun.length default).length ≤ 3 := hw _ (zAT hk)
  have hst : ∀ i, i < (s.steps.getD begun.length default).length → (zRY s n begun.length i).map (fun r => begun ++ r) = ((suf s n (begun ++ [(i : Int)]).length).map fun r => (begun ++ [(i : Int)]) ++ r) ++ (zRY s n begun.length (i + 1)).map fun r => begun ++ r := fun i hi => by
   rw [zSi hi, List.map_append, List.map_map]
   simp [Function.comp_def]
  have hen : ∀ i, (s.steps.getD begun.length default).length ≤ i → zRY s n begun.length i = [] := fun i hi => zSx hi
  generalize hWd : s.steps.getD begun.length default = W at *
  refine zAF Tryz.func40 rfl (fun E hE => ?_); simp only [go_sem, Tryz.ntmps40]
  repeat' (first | (show zAC ..; first | (refine Qr rfl ?_; try intro K' hK; try simp only [go_sem, *])) | (show Hold ..; first | refine Qh rfl ?_ | refine zAG rfl Tryz.mixed (by kernel_rfl) ?_ | (refine zAD rfl ⟨_, rfl, fun hb => ?_, fun hb => ?_⟩ <;> (have hc := hb; try simp only [go_sem] at hc)) | refine zAI rfl ?_) | (refine Qb ?_ ?_; focus kernel_rfl) | ((with_reducible refine And.intro ?_ ?_); focus omega) | (refine zAB hK ?_; clear hK K'; simp only [go_sem, *]) | (simp only [zAH, zAA, go_sem, *]))
  all_goals first | contradiction | skip
  refine zAQ rfl (fun zn zN zenv zAs => ∃ (i : Nat) (acc : List (List Int)), zn = (W.length) - i ∧ i ≤ (W.length) ∧ (acc ++ (zRY s n begun.length i).map (fun r => begun ++ r) = R) ∧ zN = 38 ∧ zenv = [(6, iV i), (5, .own 1 1 0 acc.length), (1, zBe begun), (2, .ptr 0 0)] ∧ zAs = [sBox s, .box (acc.map zBe)]) (W.length) ⟨[some 0, none], [], _, _, _, (by (simp only [Weak, go_sem, List.map_append, List.map_set, *] <;> (try simp (disch := omega) only [zAE]) <;> (try simp) <;> (try omega))), 0, [], (by simp), (by simp), (by exact hR0), rfl, rfl, rfl⟩ ?_; rintro _ _ _ _ ⟨i, acc, rfl, hi, hP, rfl, rfl, rfl⟩
  clear hR0
  have hql := congrArg List.length hP
  simp only [List.length_append] at hql
  by_cases hi : i < W.length
  ·have hi3 : (i : Int) < W.length := by omega
   rw [hst i hi] at hP hql
   have IH1 := IH i
   clear IH hst hen
   generalize ((suf s n (begun ++ [(i : Int)]).length).map fun r => (begun ++ [(i : Int)]) ++ r) = B at *
   simp only [List.length_append] at hql
   have ht : ∀ a : AV, List.take (begun.length + 1) (List.map iV begun ++ [a]) = List.map iV begun ++ [a] := fun a => List.take_of_length_le (by simp)
   simp only [zBe, List.map_append, List.map_cons, List.map_nil] at IH1
   repeat' (first | (show zAC ..; first | (refine Qr rfl ?_; try intro K' hK; try simp only [go_sem, *])) | (show Hold ..; first | refine Qh rfl ?_ | refine zAG rfl Tryz.mixed (by kernel_rfl) ?_ | (refine zAD rfl ⟨_, rfl, fun hb => ?_, fun hb => ?_⟩ <;> (have hc := hb; try simp only [go_sem] at hc)) | refine zAI rfl ?_) | (with_reducible (show (∀ _ : AV, _ → _) ∧ _); refine And.intro ?_ ?_; (focus (intro y hy; first | (obtain ⟨z, _, rfl⟩ := List.mem_map.1 (hy); simp [go_sem]; done) | (obtain ⟨z, _, rfl⟩ := List.mem_map.1 (List.mem_of_mem_take hy); simp [go_sem]; done) | (obtain ⟨z, _, rfl⟩ := List.mem_map.1 (List.mem_of_mem_drop hy); simp [go_sem]; done) | (obtain ⟨z, _, rfl⟩ := List.mem_map.1 (List.mem_of_mem_drop (List.mem_of_mem_take hy)); simp [go_sem]; done)))) | (refine Qb ?_ ?_; focus kernel_rfl) | (show zAN ..; first | (refine zBG (IH1) ?_ rfl ?_ ?_ ?_ ?_; (focus (simp only [go_sem, *]; done)); (focus (simp only [go_sem, *]; done)); (focus (first | (simp; done) | (simp [go_sem]; done))); (focus (first | (simp; done) | (simp [go_sem]; done))); simp only [go_sem, zA9, *])) | ((with_reducible refine And.intro ?_ ?_); focus omega) | (refine zAB hK ?_; clear hK K'; simp only [go_sem, *]) | (simp only [zAH, zAA, go_sem, *]))
   all_goals first | contradiction | skip
   refine ⟨_, (by omega), [some 0, some 6], [], _, _, _, (by (simp only [Weak, go_sem, List.map_append, List.map_set, *] <;> (try simp (disch := omega) only [zAE]) <;> (try simp) <;> (try omega))), i + 1, acc ++ B, rfl, (by omega), (by rw [← hP]; simp), rfl, rfl, rfl⟩
  ·have hi3 : ¬ (i : Int) < W.length := by omega
   rw [hen i (by omega), List.map_nil, List.append_nil] at hP
   subst hP
   repeat' (first | (show zAC ..; first | (refine Qr rfl ?_; try intro K' hK; try simp only [go_sem, *])) | (show Hold ..; first | refine Qh rfl ?_ | refine zAG rfl Tryz.mixed (by kernel_rfl) ?_ | (refine zAD rfl ⟨_, rfl, fun hb => ?_, fun hb => ?_⟩ <;> (have hc := hb; try simp only [go_sem] at hc)) | refine zAI rfl ?_) | (refine Qb ?_ ?_; focus kernel_rfl) | ((with_reducible refine And.intro ?_ ?_); focus omega) | (refine zAB hK ?_; clear hK K'; simp only [go_sem, *]) | (simp only [zAH, zAA, go_sem, *]))
   all_goals first | contradiction | skip
   refine ⟨[.own 1 1 0 acc.length], [], [1], ⟨rfl, trivial⟩, ?_⟩
   simp only [go_sem, *]
   intro x hx
   obtain ⟨y, _, rfl⟩ := List.mem_map.1 hx
   rfl
structure RunP (s : Story) (w : List Int) (i : Nat) (t : Truth) (G : Option Truth) : Prop where
 run : runT s (w.drop i) t = G
 len : t.ways.length = i
 val : Valid t.fin
theorem RunP.start {s : Story} {w : List Int} (v : Valid s.first) : RunP s w 0 (zEu s) (runT s w (zEu s)) := ⟨rfl, rfl, v⟩
theorem RunP.yes {s : Story} {w : List Int} {i : Nat} {t : Truth} {G : Option Truth} (h : RunP s w i t G) (hi : i < w.length) (e : can t.fin (wayC s t (w.getD i default)) = 0) : RunP s w (i + 1) (zEl t (wayC s t (w.getD i default)) (w.getD i default).toNat) G := by
 obtain ⟨h1, h2, h3⟩ := h
 rw [zAS hi, zS5 e] at h1
 exact ⟨h1, by rw [zSg, h2], zFz h3 (Fit.of_can e)⟩
theorem RunP.no {s : Story} {w : List Int} {i : Nat} {t : Truth} {G : Option Truth} (h : RunP s w i t G) (hi : i < w.length) (e : ¬ can t.fin (wayC s t (w.getD i default)) = 0) : G = none := by
 obtain ⟨h1, h2, h3⟩ := h
 rw [zAS hi, zTW e] at h1
 exact h1.symm
theorem RunP.fin {s : Story} {w : List Int} {i : Nat} {t : Truth} {G : Option Truth} (h : RunP s w i t G) (hi : w.length ≤ i) : G = some t := by
 have h1 := h.run
 rw [zAX hi] at h1
 exact h1.symm
def Ways (s : Story) (w : List Int) : Prop := w.length = s.steps.length ∧ ∀ j, j < s.steps.length → 0 ≤ w.getD j default ∧ w.getD j default < (s.steps.getD j default).length
theorem zUM {s : Story} {w : List Int} (h : w ∈ zRV s) : Ways s w := by
 obtain ⟨h1, h2⟩ := zSV _ _ _ h
 exact ⟨h1, fun j hj => by have := h2 j hj; rw [Nat.zero_add] at this; exact this⟩
theorem zT2 (s : Story) (o : Told s) (w : List Int) (hw : Ways s w) : Spec Tryz.prog 41 [s.enc, zBe w] [] (iV (if (runT s w (zEu s)).isSome = true then 1 else 0)) [] := by
 have h3 := o.steps
 have h0 := RunP.start (w := w) o.first
 obtain ⟨hwl, hwb⟩ := hw
 generalize runT s w (zEu s) = G at *
 have hff : (zEu s).fin = s.first := rfl
 refine zAF Tryz.func41 rfl (fun E hE => ?_); simp only [go_sem, Tryz.ntmps41]
 repeat' (first | (show zAC ..; first | (refine Qr rfl ?_; try intro K' hK; try simp only [go_sem, *])) | (show Hold ..; first | refine Qh rfl ?_ | refine zAG rfl Tryz.mixed (by kernel_rfl) ?_ | (refine zAD rfl ⟨_, rfl, fun hb => ?_, fun hb => ?_⟩ <;> (have hc := hb; try simp only [go_sem] at hc)) | refine zAI rfl ?_) | (refine Qb ?_ ?_; focus kernel_rfl) | ((with_reducible refine And.intro ?_ ?_); focus omega) | (refine zAB hK ?_; clear hK K'; simp only [go_sem, *]) | (simp only [zAH, zAA, go_sem, *]))
 refine zAQ rfl (fun zn zN zenv zAs => ∃ (i : Nat) (t : Truth), zn = (w.length) - i ∧ i ≤ (w.length) ∧ (RunP s w i t G) ∧ zN = 37 ∧ zenv = [(6, iV i), (5, .ptr 1 0), (1, zBe w), (2, .ptr 0 0)] ∧ zAs = [sBox s, pBox t.fin]) (w.length) ⟨[some 0, some 1], [], _, _, _, (by (simp only [Weak, go_sem, List.map_append, List.map_set, *] <;> (try simp (disch := omega) only [zAE]) <;> (try simp) <;> (try omega))), 0, zEu s, (by simp), (by simp), (by exact h0), rfl, rfl, rfl⟩ ?_; rintro _ _ _ _ ⟨i, t, rfl, hi, hP, rfl, rfl, rfl⟩
 clear h0 hff
 by_cases hi : i < w.length
 ·have hi3 : (i : Int) < w.length := by omega
  have his : i < s.steps.length := by omega
  obtain ⟨b0, b1⟩ := hwb i his
  have hti := hP.len
  have hv := hP.val
  have hv3 := hv.len
  have hy := hP.yes hi
  have hn := hP.no hi
  have hc0 : wayC s t (w.getD i default) = (s.steps.getD i default).getD (w.getD i default).toNat default := by unfold wayC zCe; rw [hti]
  rw [hc0] at hy hn
  have b2 : (w.getD i default).toNat < (s.steps.getD i default).length := by omega
  have sA := zMf t.fin ((s.steps.getD i default).getD (w.getD i default).toNat default) (by omega)
  have hE : zBH t.fin ((s.steps.getD i default).getD (w.getD i default).toNat default) = can t.fin ((s.steps.getD i default).getD (w.getD i default).toNat default) := by unfold zBH; rw [if_pos ((zBY _).2 hv)]
  rw [hE] at sA
  clear hP hc0 hti hE hwb
  generalize hz : w.getD i default = z at *
  by_cases e : can t.fin ((s.steps.getD i default).getD z.toNat default) = 0
  ·have hP2 := hy e
   rw [if_pos e, e] at sA
   have hf : (zEl t ((s.steps.getD i default).getD z.toNat default) z.toNat).fin = zAk t.fin ((s.steps.getD i default).getD z.toNat default) := rfl
   rw [← hf] at sA
   clear hy hn e hf
   generalize zEl t ((s.steps.getD i default).getD z.toNat default) z.toNat = t2 at *
   repeat' (first | (show zAC ..; first | (refine Qr rfl ?_; try intro K' hK; try simp only [go_sem, *])) | (show Hold ..; first | refine Qh rfl ?_ | refine zAG rfl Tryz.mixed (by kernel_rfl) ?_ | (refine zAD rfl ⟨_, rfl, fun hb => ?_, fun hb => ?_⟩ <;> (have hc := hb; try simp only [go_sem] at hc)) | refine zAI rfl ?_) | (refine Qb ?_ ?_; focus kernel_rfl) | (show zAN ..; first | (refine zAK (sA) ?_ ?_; (focus (simp only [go_sem, *]; done)); simp only [go_sem, *])) | ((with_reducible refine And.intro ?_ ?_); focus omega) | (refine zAB hK ?_; clear hK K'; simp only [go_sem, *]) | (simp only [zAH, zAA, go_sem, *]))
   all_goals first | contradiction | skip
   refine ⟨_, (by omega), [some 0, some 1], [], _, _, _, (by (simp only [Weak, go_sem, List.map_append, List.map_set, *] <;> (try simp (disch := omega) only [zAE]) <;> (try simp) <;> (try omega))), i + 1, t2, rfl, (by omega), (by exact hP2), rfl, rfl, rfl⟩
  ·have hG := hn e
   rw [if_neg e] at sA
   have e2 : (can t.fin ((s.steps.getD i default).getD z.toNat default) != 0) = true := by simpa using e
   clear hy hn e
   generalize can t.fin ((s.steps.getD i default).getD z.toNat default) = er at *
   subst hG
   repeat' (first | (show zAC ..; first | (refine Qr rfl ?_; try intro K' hK; try simp only [go_sem, *])) | (show Hold ..; first | refine Qh rfl ?_ | refine zAG rfl Tryz.mixed (by kernel_rfl) ?_ | (refine zAD rfl ⟨_, rfl, fun hb => ?_, fun hb => ?_⟩ <;> (have hc := hb; try simp only [go_sem] at hc)) | refine zAI rfl ?_) | (refine Qb ?_ ?_; focus kernel_rfl) | (show zAN ..; first | (refine zAK (sA) ?_ ?_; (focus (simp only [go_sem, *]; done)); simp only [go_sem, *])) | ((with_reducible refine And.intro ?_ ?_); focus omega) | (refine zAB hK ?_; clear hK K'; simp only [go_sem, *]) | (simp only [zAH, zAA, go_sem, *]))
   all_goals first | contradiction | skip
   (refine ⟨[_], [], [], ⟨rfl, trivial⟩, ?_⟩; simp only [go_sem, *])
   rfl
 ·have hi3 : ¬ (i : Int) < w.length := by omega
  have hG := hP.fin (by omega)
  subst hG
  clear hP hwl
  repeat' (first | (show zAC ..; first | (refine Qr rfl ?_; try intro K' hK; try simp only [go_sem, *])) | (show Hold ..; first | refine Qh rfl ?_ | refine zAG rfl Tryz.mixed (by kernel_rfl) ?_ | (refine zAD rfl ⟨_, rfl, fun hb => ?_, fun hb => ?_⟩ <;> (have hc := hb; try simp only [go_sem] at hc)) | refine zAI rfl ?_) | (refine Qb ?_ ?_; focus kernel_rfl) | ((with_reducible refine And.intro ?_ ?_); focus omega) | (refine zAB hK ?_; clear hK K'; simp only [go_sem, *]) | (simp only [zAH, zAA, go_sem, *]))
  all_goals first | contradiction | skip
  (refine ⟨[_], [], [], ⟨rfl, trivial⟩, ?_⟩; simp only [go_sem, *])
theorem zTu {s : Story} {w : List Int} {i : Nat} (t : Truth) (c : Change) (h : House) : zA8 ((t.now h).flatMap fun x => zA8 (mv t.fin c x)) = (zEl t c i).now h := by
 show _ = zA8 ((t.now h).flatMap (mv t.fin c))
 exact zNu (fun z => by simp only [List.mem_flatMap, mem_sortH])
theorem zTa (s : Story) (o : Told s) (w : List Int) (hw : Ways s w) (h : House) (hh : h ∈ zAJ s.first) (T : Truth) (hT : runT s w (zEu s) = some T) :
  Spec Tryz.prog 42 [s.enc, zBe w, h.enc] [] (.tup [zAO T.fin, zAi (T.now h), iV 1]) [] := by
 have h3 := o.steps
 have h0 := RunP.start (w := w) o.first
 have k0 : TOk s s.steps.length (zEu s) := zHY o.first
 obtain ⟨hwl, hwb⟩ := hw
 rw [hT] at h0
 have hff : (zEu s).fin = s.first := rfl
 have hfn : (zEu s).now h = [h] := rfl
 clear hT
 refine zAF Tryz.func42 rfl (fun E hE => ?_); simp only [go_sem, Tryz.ntmps42]
 repeat' (first | (show zAC ..; first | (refine Qr rfl ?_; try intro K' hK; try simp only [go_sem, *]) | (refine Qi rfl rfl rfl rfl (fun hb K' hK => ?_) (fun hb => ?_) <;> (have hc := hb; try simp only [go_sem] at hc; simp only [go_sem, *]))) | (show Hold ..; first | refine Qh rfl ?_ | refine zAG rfl Tryz.mixed (by kernel_rfl) ?_ | (refine zAD rfl ⟨_, rfl, fun hb => ?_, fun hb => ?_⟩ <;> (have hc := hb; try simp only [go_sem] at hc)) | refine zAI rfl ?_) | (refine Qb ?_ ?_; focus kernel_rfl) | ((with_reducible refine And.intro ?_ ?_); focus omega) | (refine zAB hK ?_; clear hK K'; simp only [go_sem, *]) | (simp only [zAH, zAA, go_sem, *]))
 all_goals first | contradiction | skip
 refine zAQ rfl (fun zn zN zenv zAs => ∃ (i : Nat) (t : Truth), zn = (w.length) - i ∧ i ≤ (w.length) ∧ (RunP s w i t (some T) ∧ TOk s (s.steps.length - i) t) ∧ zN = 82 ∧ zenv = [(11, iV i), (10, zAi (t.now h)), (9, .ptr 2 0), (6, .ptr 1 0), (1, zBe w), (3, .ptr 0 0)] ∧ zAs = [sBox s, .box [nilV], pBox t.fin]) (w.length) ⟨[some 0, some 2, some 4], [3], _, _, _, (by (simp only [Weak, go_sem, List.map_append, List.map_set, *] <;> (try simp (disch := omega) only [zAE]) <;> (try simp) <;> (try omega))), 0, zEu s, (by simp), (by simp), (by exact ⟨h0, k0⟩), rfl, rfl, rfl⟩ ?_; rintro _ _ _ _ ⟨i, t, rfl, hi, hP, rfl, rfl, rfl⟩
 clear h0 hff hfn k0
 obtain ⟨hP, hK1⟩ := hP
 by_cases hi : i < w.length
 ·have hi3 : (i : Int) < w.length := by omega
  have his : i < s.steps.length := by omega
  obtain ⟨b0, b1⟩ := hwb i his
  have hti := hP.len
  have hv := hP.val
  have hv3 := hv.len
  have hy := hP.yes hi
  have hn := hP.no hi
  have hc0 : wayC s t (w.getD i default) = (s.steps.getD i default).getD (w.getD i default).toNat default := by unfold wayC zCe; rw [hti]
  rw [hc0] at hy hn
  have b2 : (w.getD i default).toNat < (s.steps.getD i default).length := by omega
  have sA := zMf t.fin ((s.steps.getD i default).getD (w.getD i default).toNat default) (by omega)
  have hE : zBH t.fin ((s.steps.getD i default).getD (w.getD i default).toNat default) = can t.fin ((s.steps.getD i default).getD (w.getD i default).toNat default) := by unfold zBH; rw [if_pos ((zBY _).2 hv)]
  rw [hE] at sA
  have e : can t.fin ((s.steps.getD i default).getD (w.getD i default).toNat default) = 0 := by
   by_cases e : can t.fin ((s.steps.getD i default).getD (w.getD i default).toNat default) = 0
   ·exact e
   ·have := hn e; cases this
  have hP2 := hy e
  rw [e] at hE
  rw [if_pos e, e] at sA
  obtain ⟨k, hk⟩ : ∃ k, s.steps.length - i = k + 1 := ⟨s.steps.length - i - 1, by omega⟩
  have hk2 : s.steps.length - (i + 1) = k := by omega
  rw [hk] at hK1
  have hsm := hK1.small h3 hh
  have hK2 := hK1.next e (w.getD i default).toNat
  have hmm := hK1.mem h hh
  have hnn := zTu (i := (w.getD i default).toNat) t ((s.steps.getD i default).getD (w.getD i default).toNat default) h (s := s) (w := w)
  have hBB : ∀ x, x ∈ t.now h → x.Wf ∧ zCg t.fin ((s.steps.getD i default).getD (w.getD i default).toNat default) x = 0 ∧ zDw t.fin ((s.steps.getD i default).getD (w.getD i default).toNat default) x = zA8 (mv t.fin ((s.steps.getD i default).getD (w.getD i default).toNat default) x) := fun x hx => by
   have hx2 := hmm x hx
   have b : zCg t.fin ((s.steps.getD i default).getD (w.getD i default).toNat default) x = 0 := by unfold zCg; rw [if_pos hE, if_pos hx2]
   exact ⟨hv.wf x hx2, b, by unfold zDw; rw [if_pos b]⟩
  have sB := fun x hx => zRa t.fin ((s.steps.getD i default).getD (w.getD i default).toNat default) x (by omega) hx
  have hBl : ∀ x, (zA8 (mv t.fin ((s.steps.getD i default).getD (w.getD i default).toNat default) x)).length ≤ 2 := fun x => Nat.le_trans (zCA (zBC _).nodup (fun _ hx => mem_sortH.1 hx)) (zGY _ _ x)
  have hf : (zEl t ((s.steps.getD i default).getD (w.getD i default).toNat default) (w.getD i default).toNat).fin = zAk t.fin ((s.steps.getD i default).getD (w.getD i default).toNat default) := rfl
  rw [← hf] at sA
  clear hP hc0 hti hE hwb hf hy hn e hmm
  generalize hz : w.getD i default = z at *
  generalize hcc : (s.steps.getD i default).getD z.toNat default = c at *
  generalize zEl t c z.toNat = t2 at *
  generalize t.now h = l at *
  have hfl : ([] : List House) ++ (l.drop 0).flatMap (fun x => zA8 (mv t.fin c x)) = l.flatMap fun x => zA8 (mv t.fin c x) := rfl
  have hLl : (l.flatMap fun x => zA8 (mv t.fin c x)).length ≤ 16 := by
   have := zRr (f := fun x => zA8 (mv t.fin c x)) (l := l) (N := 2) (fun x _ => hBl x)
   omega
  have sS := zEk (l.flatMap fun x => zA8 (mv t.fin c x)) (by omega)
  rw [hnn] at sS
  clear hnn
  generalize (l.flatMap fun x => zA8 (mv t.fin c x)) = L2 at *
  repeat' (first | (show zAC ..; first | (refine Qr rfl ?_; try intro K' hK; try simp only [go_sem, *]) | (refine Qi rfl rfl rfl rfl (fun hb K' hK => ?_) (fun hb => ?_) <;> (have hc := hb; try simp only [go_sem] at hc; simp only [go_sem, *]))) | (show Hold ..; first | refine Qh rfl ?_ | refine zAG rfl Tryz.mixed (by kernel_rfl) ?_ | (refine zAD rfl ⟨_, rfl, fun hb => ?_, fun hb => ?_⟩ <;> (have hc := hb; try simp only [go_sem] at hc)) | refine zAI rfl ?_) | (refine Qb ?_ ?_; focus kernel_rfl) | (show zAN ..; first | (refine zAK (sA) ?_ ?_; (focus (simp only [go_sem, *]; done)); simp only [go_sem, *])) | ((with_reducible refine And.intro ?_ ?_); focus omega) | (refine zAB hK ?_; clear hK K'; simp only [go_sem, *]) | (simp only [zAH, zAA, go_sem, *]))
  all_goals first | contradiction | skip
  clear sA hcc hz
  refine zAQ rfl (fun zn zN zenv zAs => ∃ (j : Nat) (acc : List House), zn = (l.length) - j ∧ j ≤ (l.length) ∧ (acc ++ (l.drop j).flatMap (fun x => zA8 (mv t.fin c x)) = L2) ∧ zN = 82 ∧ zenv = [(16, iV j), (15, .own 5 3 0 acc.length), (13, .ptr 4 0), (12, .ptr 3 0), (11, iV i), (10, zAi l), (9, .ptr 2 0), (6, .ptr 1 0), (1, zBe w), (3, .ptr 0 0)] ∧ zAs = [sBox s, .box [nilV], pBox t.fin, cBox c, pBox t2.fin, .row 3 (acc.map House.enc)]) (l.length) ⟨[some 0, some 1, some 2, some 3, some 4, none], [], _, _, _, (by (simp only [Weak, go_sem, List.map_append, List.map_set, *] <;> (try simp (disch := omega) only [zAE]) <;> (try simp) <;> (try omega))), 0, [], (by simp), (by simp), (by exact hfl), rfl, rfl, rfl⟩ ?_; rintro _ _ _ _ ⟨j, acc, rfl, hj, hQ, rfl, rfl, rfl⟩
  clear hfl
  have hql := congrArg List.length hQ
  simp only [List.length_append] at hql
  by_cases hj : j < l.length
  ·have hj3 : (j : Int) < l.length := by omega
   obtain ⟨f1, f2, f3⟩ := hBB _ (zAT hj)
   have sB1 := sB _ f1
   rw [f2, f3] at sB1
   have hb2 := hBl (l.getD j default)
   rw [zAS hj, List.flatMap_cons] at hQ
   clear hBB sB hBl f1 f2 f3 sS
   generalize zA8 (mv t.fin c (l.getD j default)) = b at *
   have hb3 : ¬ ((b.length : Nat) : Int) > 2 := by omega
   repeat' (first | (show zAC ..; first | (refine Qr rfl ?_; try intro K' hK; try simp only [go_sem, *]) | (refine Qi rfl rfl rfl rfl (fun hb K' hK => ?_) (fun hb => ?_) <;> (have hc := hb; try simp only [go_sem] at hc; simp only [go_sem, *]))) | (show Hold ..; first | refine Qh rfl ?_ | refine zAG rfl Tryz.mixed (by kernel_rfl) ?_ | (refine zAD rfl ⟨_, rfl, fun hb => ?_, fun hb => ?_⟩ <;> (have hc := hb; try simp only [go_sem] at hc)) | refine zAI rfl ?_) | (with_reducible (show (∀ _ : AV, _ → _) ∧ _); refine And.intro ?_ ?_; (focus (intro y hy; first | (obtain ⟨z, _, rfl⟩ := List.mem_map.1 (hy); simp [go_sem]; done) | (obtain ⟨z, _, rfl⟩ := List.mem_map.1 (List.mem_of_mem_take hy); simp [go_sem]; done) | (obtain ⟨z, _, rfl⟩ := List.mem_map.1 (List.mem_of_mem_drop hy); simp [go_sem]; done) | (obtain ⟨z, _, rfl⟩ := List.mem_map.1 (List.mem_of_mem_drop (List.mem_of_mem_take hy)); simp [go_sem]; done)))) | (refine Qb ?_ ?_; focus kernel_rfl) | (show zAN ..; first | (refine zAK (sB1) ?_ ?_; (focus (simp only [go_sem, *]; done)); simp only [go_sem, *])) | ((with_reducible refine And.intro ?_ ?_); focus omega) | (refine zAB hK ?_; clear hK K'; simp only [go_sem, *]) | (simp only [zAH, zAA, go_sem, *]))
   all_goals first | contradiction | skip
   refine ⟨_, (by omega), [some 0, some 1, some 2, some 3, some 4, some 6], [], _, _, _, (by (simp only [Weak, go_sem, List.map_append, List.map_set, *] <;> (try simp (disch := omega) only [zAE]) <;> (try simp) <;> (try omega))), j + 1, acc ++ b, rfl, (by omega), (by rw [← hQ]; simp), rfl, rfl, rfl⟩
  ·have hj3 : ¬ (j : Int) < l.length := by omega
   rw [zAX (by omega), List.flatMap_nil, List.append_nil] at hQ
   subst hQ
   clear hBB sB hBl
   repeat' (first | (show zAC ..; first | (refine Qr rfl ?_; try intro K' hK; try simp only [go_sem, *]) | (refine Qi rfl rfl rfl rfl (fun hb K' hK => ?_) (fun hb => ?_) <;> (have hc := hb; try simp only [go_sem] at hc; simp only [go_sem, *]))) | (show Hold ..; first | refine Qh rfl ?_ | refine zAG rfl Tryz.mixed (by kernel_rfl) ?_ | (refine zAD rfl ⟨_, rfl, fun hb => ?_, fun hb => ?_⟩ <;> (have hc := hb; try simp only [go_sem] at hc)) | refine zAI rfl ?_) | (refine Qb ?_ ?_; focus kernel_rfl) | (show zAN ..; first | (refine zBG (sS) ?_ rfl ?_ ?_ ?_ ?_; (focus (simp only [go_sem, *]; done)); (focus (simp only [go_sem, *]; done)); (focus (first | (simp; done) | (simp [go_sem]; done))); (focus (first | (simp; done) | (simp [go_sem]; done))); simp only [go_sem, zA9, *])) | ((with_reducible refine And.intro ?_ ?_); focus omega) | (refine zAB hK ?_; clear hK K'; simp only [go_sem, *]) | (simp only [zAH, zAA, go_sem, *]))
   all_goals first | contradiction | skip
   refine ⟨_, (by omega), [some 0, some 1, some 2], [], _, _, _, (by (simp only [Weak, go_sem, List.map_append, List.map_set, *] <;> (try simp (disch := omega) only [zAE]) <;> (try simp) <;> (try omega))), i + 1, t2, rfl, (by omega), (by exact ⟨hP2, by rw [hk2]; exact hK2⟩), rfl, rfl, rfl⟩
 ·have hi3 : ¬ (i : Int) < w.length := by omega
  have hG := hP.fin (by omega)
  injection hG with hG
  subst hG
  clear hP hwl hwb hK1
  repeat' (first | (show zAC ..; first | (refine Qr rfl ?_; try intro K' hK; try simp only [go_sem, *]) | (refine Qi rfl rfl rfl rfl (fun hb K' hK => ?_) (fun hb => ?_) <;> (have hc := hb; try simp only [go_sem] at hc; simp only [go_sem, *]))) | (show Hold ..; first | refine Qh rfl ?_ | refine zAG rfl Tryz.mixed (by kernel_rfl) ?_ | (refine zAD rfl ⟨_, rfl, fun hb => ?_, fun hb => ?_⟩ <;> (have hc := hb; try simp only [go_sem] at hc)) | refine zAI rfl ?_) | (refine Qb ?_ ?_; focus kernel_rfl) | ((with_reducible refine And.intro ?_ ?_); focus omega) | (refine zAB hK ?_; clear hK K'; simp only [go_sem, *]) | (simp only [zAH, zAA, go_sem, *]))
  all_goals first | contradiction | skip
  refine ⟨[zAO T.fin, zAi (T.now h), iV 1], [], [], ⟨(by simp only [zAY, go_sem]), rfl, rfl, trivial⟩, ?_⟩; simp only [go_sem, *]
end Go.Abs

namespace Go.Abs
open Go Go.Proofs
attribute [local irreducible] zAC Hold zAN
def FaP (s : Story) (T : Truth) (k : Nat) (b : Bool) (A : Bool) : Prop := (b = true ∧ zGu (s.facts.drop k) T = A) ∨ (b = false ∧ A = false)
theorem zTX {s : Story} (o : Told s) : (zRV s).length ≤ 27 := by
 have h1 := zSy (fun w hw => (o.ways w hw).2.1) s.steps.length 0
 have h2 : 3 ^ s.steps.length ≤ 3 ^ 3 := Nat.pow_le_pow_right (by omega) o.steps
 unfold zRV; omega
theorem zTD (s : Story) (o : Told s) : Spec Tryz.prog 40 [s.enc, .list []] [] (.list ((zRV s).map zBe)) [] := by
 have h := zSO s o.steps (fun w hw => (o.ways w hw).2.1) s.steps.length [] (by simp)
 have e : ((suf s s.steps.length ([] : List Int).length).map fun r => ([] : List Int) ++ r) = zRV s := by simp [zRV]
 rw [e] at h; exact h
theorem zUA (nums : List Int) (h : nums.length ≤ 4294967296) : Spec Tryz.prog 8 [zBe nums] [] (bV true) [] := by
 have s1 := zOW nums
 have s2 := zTF (zLP nums) 5 3 2 2 h (by omega) (by omega) (by omega) (by omega)
 have sm := zTG (d := zLP nums) (houses := 5) (steps := 3) (ways := 2) (facts := 2) (by omega) (by omega) (by omega) (by omega)
 generalize zR0 (zLP nums) 5 3 2 2 = S at *
 obtain ⟨s, d1⟩ := S
 simp only at s2 sm
 have o := sm.told
 have s3 := zIK s (zTh o)
 have s4 := zTD s o
 have hCl := zTX o
 have hdue := zSU s
 have sw := zOX
 have hCw : ∀ w, w ∈ zRV s → Ways s w ∧ w.length ≤ 4294967296 := fun w hw => by
  have := zUM hw
  have h3 := o.steps
  exact ⟨this, by have := this.1; omega⟩
 have hWw : ∀ w, w ∈ zJi s → w.length ≤ 4294967296 := fun w hw => by
  rw [← zSU] at hw
  exact (hCw w (List.mem_filter.1 hw).1).2
 have hWl : (zJi s).length ≤ 27 := by rw [← zSU]; exact Nat.le_trans (List.length_filter_le _ _) hCl
 have sE := zKK (zJi s) (zJi s) (by omega) hWw
 rw [decide_eq_true rfl] at sE
 have hsrc : ∀ f, f ∈ s.facts → f.src ∈ zAJ s.first := fun f hf => (o.fact f hf).1
 have hf4 := o.facts
 have hsmall : ∀ w T, runT s w (zEu s) = some T → w ∈ zRV s → ∀ f, f ∈ s.facts → (T.now f.src).length ≤ 8 := fun w T e hw f hf => by
  have hT : T ∈ zTL s := by
   unfold zTL
   rw [zSA]
   exact List.mem_filterMap.2 ⟨w, hw, e⟩
  exact (zUV o.first T hT).small o.steps (hsrc f hf)
 generalize zJi s = W at *
 generalize zRV s = C at *
 have h0 : ([] : List (List Int)) ++ (C.drop 0).filter (zRe s) = W := hdue
 clear hdue h sm hWw
 refine zAF Tryz.func8 rfl (fun E hE => ?_); simp only [go_sem, Tryz.ntmps8]
 repeat' (first | (show zAC ..; first | (refine Qr rfl ?_; try intro K' hK; try simp only [go_sem, *]) | (refine Qi rfl rfl rfl rfl (fun hb K' hK => ?_) (fun hb => ?_) <;> (have hc := hb; try simp only [go_sem] at hc; simp only [go_sem, *]))) | (show Hold ..; first | refine Qh rfl ?_ | refine zAG rfl Tryz.mixed (by kernel_rfl) ?_ | (refine zAD rfl ⟨_, rfl, fun hb => ?_, fun hb => ?_⟩ <;> (have hc := hb; try simp only [go_sem] at hc)) | refine zAI rfl ?_) | (refine Qb ?_ ?_; focus kernel_rfl) | (show zAN ..; first | (refine zAl (s1) ?_ ?_ ?_ ?_; (focus (simp only [go_sem, *]; done)); (focus (first | (simp; done) | (simp [go_sem]; done))); (focus (first | (simp; done) | (simp [go_sem]; done))); simp only [go_sem, *]) | (refine zAR [0] [] (s2) (by simp) ?_ ?_ (by simp) (.inl rfl) ?_ ?_ ?_; (focus (simp only [go_sem, *]; done)); (focus (simp only [go_sem, *]; done)); (focus (first | (simp; done) | (simp [go_sem]; done))); (focus (first | (simp; done) | (simp [go_sem]; done))); simp only [go_sem, *]) | (refine zAK (s3) ?_ ?_; (focus (simp only [go_sem, *]; done)); simp only [go_sem, *]) | (refine zBG (s4) ?_ rfl ?_ ?_ ?_ ?_; (focus (simp only [go_sem, *]; done)); (focus (simp only [go_sem, *]; done)); (focus (first | (simp; done) | (simp [go_sem]; done))); (focus (first | (simp; done) | (simp [go_sem]; done))); simp only [go_sem, zA9, *])) | ((with_reducible refine And.intro ?_ ?_); focus omega) | (refine zAB hK ?_; clear hK K'; simp only [go_sem, *]) | (simp only [zAH, zAA, go_sem, *]))
 all_goals first | contradiction | skip
 clear s1 s2 s3 s4
 refine zAQ rfl (fun zn zN zenv zAs => ∃ (i : Nat) (acc : List (List Int)), zn = (C.length) - i ∧ i ≤ (C.length) ∧ (acc ++ (C.drop i).filter (zRe s) = W) ∧ zN = 93 ∧ zenv = [(8, iV i), (7, .own 1 1 0 acc.length), (6, .list (C.map zBe)), (5, iV 0), (4, .list (W.map zBe)), (3, .ptr 0 0)] ∧ zAs = [sBox s, .box (acc.map zBe)]) (C.length) ⟨[some 1, none], [], _, _, _, (by (simp only [Weak, go_sem, List.map_append, List.map_set, *] <;> (try simp (disch := omega) only [zAE]) <;> (try simp) <;> (try omega))), 0, [], (by simp), (by simp), (by exact h0), rfl, rfl, rfl⟩ ?_; rintro _ _ _ _ ⟨i, acc, rfl, hi, hP, rfl, rfl, rfl⟩
 clear h0
 have hql := congrArg List.length hP
 simp only [List.length_append] at hql
 by_cases hi : i < C.length
 ·have hi3 : (i : Int) < C.length := by omega
  have hm := zAT hi
  obtain ⟨hwy, hwl⟩ := hCw _ hm
  have sP := zT2 s o _ hwy
  have hsm := hsmall (C.getD i default)
  have sF := fun h hh T hT => zTa s o (C.getD i default) hwy h hh T hT
  have hd : (C.drop i).filter (zRe s) = if zRe s (C.getD i default) = true then C.getD i default :: (C.drop (i + 1)).filter (zRe s) else (C.drop (i + 1)).filter (zRe s) := by
   rw [zAS hi, List.filter_cons]
  rw [hd] at hP
  clear hd hCw hsmall
  have hal : zRe s (C.getD i default) = (match runT s (C.getD i default) (zEu s) with
   | some t => zGu s.facts t
   | none => false) := rfl
  cases hG : runT s (C.getD i default) (zEu s) with
  | none =>
   rw [hG] at hal sP
   simp only at hal
   rw [if_neg (by rw [hal]; decide)] at hP
   clear hal sF hsm hG
   repeat' (first | (show zAC ..; first | (refine Qr rfl ?_; try intro K' hK; try simp only [go_sem, *]) | (refine Qi rfl rfl rfl rfl (fun hb K' hK => ?_) (fun hb => ?_) <;> (have hc := hb; try simp only [go_sem] at hc; simp only [go_sem, *]))) | (show Hold ..; first | refine Qh rfl ?_ | refine zAG rfl Tryz.mixed (by kernel_rfl) ?_ | (refine zAD rfl ⟨_, rfl, fun hb => ?_, fun hb => ?_⟩ <;> (have hc := hb; try simp only [go_sem] at hc)) | refine zAI rfl ?_) | (refine Qb ?_ ?_; focus kernel_rfl) | (show zAN ..; first | (refine zAK (sP) ?_ ?_; (focus (simp only [go_sem, *]; done)); simp only [go_sem, *])) | ((with_reducible refine And.intro ?_ ?_); focus omega) | (refine zAB hK ?_; clear hK K'; simp only [go_sem, *]) | (simp only [zAH, zAA, go_sem, *]))
   all_goals first | contradiction | skip
   refine zAQ rfl (fun zn zN zenv zAs => ∃ (k : Nat), zn = (1) - k ∧ k ≤ (1) ∧ (k = 0) ∧ zN = 93 ∧ zenv = [(10, iV k), (9, iV 0), (8, iV i), (7, .own 1 1 0 acc.length), (6, .list (C.map zBe)), (5, iV 0), (4, .list (W.map zBe)), (3, .ptr 0 0)] ∧ zAs = [sBox s, .box (acc.map zBe)]) (1) ⟨[some 0, some 1], [], _, _, _, (by (simp only [Weak, go_sem, List.map_append, List.map_set, *] <;> (try simp (disch := omega) only [zAE]) <;> (try simp) <;> (try omega))), 0, (by simp), (by simp), (by rfl), rfl, rfl, rfl⟩ ?_; rintro _ _ _ _ ⟨k, rfl, hk, hQ, rfl, rfl, rfl⟩
   subst hQ
   repeat' (first | (show zAC ..; first | (refine Qr rfl ?_; try intro K' hK; try simp only [go_sem, *]) | (refine Qi rfl rfl rfl rfl (fun hb K' hK => ?_) (fun hb => ?_) <;> (have hc := hb; try simp only [go_sem] at hc; simp only [go_sem, *]))) | (show Hold ..; first | refine Qh rfl ?_ | refine zAG rfl Tryz.mixed (by kernel_rfl) ?_ | (refine zAD rfl ⟨_, rfl, fun hb => ?_, fun hb => ?_⟩ <;> (have hc := hb; try simp only [go_sem] at hc)) | refine zAI rfl ?_) | (refine Qb ?_ ?_; focus kernel_rfl) | ((with_reducible refine And.intro ?_ ?_); focus omega) | (refine zAB hK ?_; clear hK K'; simp only [go_sem, *]) | (simp only [zAH, zAA, go_sem, *]))
   all_goals first | contradiction | skip
   all_goals
    refine ⟨_, (by omega), [some 0, some 1], [], _, _, _, (by (simp only [Weak, go_sem, List.map_append, List.map_set, *] <;> (try simp (disch := omega) only [zAE]) <;> (try simp) <;> (try omega))), i + 1, acc, rfl, (by omega), (by exact hP), rfl, rfl, rfl⟩
  | some T =>
   rw [hG] at hal sP
   simp only at hal
   have sF1 := fun h hh => sF h hh T hG
   have hsm1 := hsm T hG hm
   rw [hal] at hP
   have hf0 : FaP s T 0 true (zGu s.facts T) := .inl ⟨rfl, rfl⟩
   clear hal sF hsm hG
   generalize zGu s.facts T = A at *
   repeat' (first | (show zAC ..; first | (refine Qr rfl ?_; try intro K' hK; try simp only [go_sem, *]) | (refine Qi rfl rfl rfl rfl (fun hb K' hK => ?_) (fun hb => ?_) <;> (have hc := hb; try simp only [go_sem] at hc; simp only [go_sem, *]))) | (show Hold ..; first | refine Qh rfl ?_ | refine zAG rfl Tryz.mixed (by kernel_rfl) ?_ | (refine zAD rfl ⟨_, rfl, fun hb => ?_, fun hb => ?_⟩ <;> (have hc := hb; try simp only [go_sem] at hc)) | refine zAI rfl ?_) | (refine Qb ?_ ?_; focus kernel_rfl) | (show zAN ..; first | (refine zAK (sP) ?_ ?_; (focus (simp only [go_sem, *]; done)); simp only [go_sem, *])) | ((with_reducible refine And.intro ?_ ?_); focus omega) | (refine zAB hK ?_; clear hK K'; simp only [go_sem, *]) | (simp only [zAH, zAA, go_sem, *]))
   all_goals first | contradiction | skip
   clear sP
   refine zAQ rfl (fun zn zN zenv zAs => ∃ (k : Nat) (b : Bool), zn = (s.facts.length) - k ∧ k ≤ (s.facts.length) ∧ (FaP s T k b A) ∧ zN = 93 ∧ zenv = [(10, iV k), (9, iV (if b = true then 1 else 0)), (8, iV i), (7, .own 1 1 0 acc.length), (6, .list (C.map zBe)), (5, iV 0), (4, .list (W.map zBe)), (3, .ptr 0 0)] ∧ zAs = [sBox s, .box (acc.map zBe)]) (s.facts.length) ⟨[some 0, some 1], [], _, _, _, (by (simp only [Weak, go_sem, List.map_append, List.map_set, *] <;> (try simp (disch := omega) only [zAE]) <;> (try simp) <;> (try omega))), 0, true, (by simp), (by simp), (by exact hf0), rfl, rfl, rfl⟩ ?_; rintro _ _ _ _ ⟨k, b, rfl, hk, hQ, rfl, rfl, rfl⟩
   clear hf0
   rcases hQ with ⟨rfl, hA⟩ | ⟨rfl, rfl⟩
   ·by_cases hk : k < s.facts.length
    ·have hk3 : (k : Int) < s.facts.length := by omega
     rw [zJt hk] at hA
     have hfm := zAT hk
     have sF2 := sF1 _ (hsrc _ hfm)
     have hsl := hsm1 _ hfm
     have sH := zNx (T.now (s.facts.getD k default).src) (s.facts.getD k default).dst (by omega)
     have hFa : FaP s T (k + 1) (decide ((s.facts.getD k default).dst ∈ T.now (s.facts.getD k default).src)) A := by
      cases hd : decide ((s.facts.getD k default).dst ∈ T.now (s.facts.getD k default).src) with
      | true => rw [hd, Bool.true_and] at hA; exact .inl ⟨rfl, hA⟩
      | false => rw [hd, Bool.false_and] at hA; exact .inr ⟨rfl, hA.symm⟩
     clear hA sF1 hsm1 hfm
     generalize decide ((s.facts.getD k default).dst ∈ T.now (s.facts.getD k default).src) = b at *
     generalize T.now (s.facts.getD k default).src = l at *
     cases b with
     | true =>
      repeat' (first | (show zAC ..; first | (refine Qr rfl ?_; try intro K' hK; try simp only [go_sem, *]) | (refine Qi rfl rfl rfl rfl (fun hb K' hK => ?_) (fun hb => ?_) <;> (have hc := hb; try simp only [go_sem] at hc; simp only [go_sem, *]))) | (show Hold ..; first | refine Qh rfl ?_ | refine zAG rfl Tryz.mixed (by kernel_rfl) ?_ | (refine zAD rfl ⟨_, rfl, fun hb => ?_, fun hb => ?_⟩ <;> (have hc := hb; try simp only [go_sem] at hc)) | refine zAI rfl ?_) | (refine Qb ?_ ?_; focus kernel_rfl) | (show zAN ..; first | ((first | refine zAK (sF2) ?_ ?_ | refine zAK (sH) ?_ ?_); (focus (simp only [go_sem, *]; done)); simp only [go_sem, *])) | ((with_reducible refine And.intro ?_ ?_); focus omega) | (refine zAB hK ?_; clear hK K'; simp only [go_sem, *]) | (simp only [zAH, zAA, go_sem, *]))
      all_goals first | contradiction | skip
      refine ⟨_, (by omega), [some 0, some 1], [], _, _, _, (by (simp only [Weak, go_sem, List.map_append, List.map_set, *] <;> (try simp (disch := omega) only [zAE]) <;> (try simp) <;> (try omega))), k + 1, true, rfl, (by omega), (by exact hFa), rfl, rfl, rfl⟩
     | false =>
      repeat' (first | (show zAC ..; first | (refine Qr rfl ?_; try intro K' hK; try simp only [go_sem, *]) | (refine Qi rfl rfl rfl rfl (fun hb K' hK => ?_) (fun hb => ?_) <;> (have hc := hb; try simp only [go_sem] at hc; simp only [go_sem, *]))) | (show Hold ..; first | refine Qh rfl ?_ | refine zAG rfl Tryz.mixed (by kernel_rfl) ?_ | (refine zAD rfl ⟨_, rfl, fun hb => ?_, fun hb => ?_⟩ <;> (have hc := hb; try simp only [go_sem] at hc)) | refine zAI rfl ?_) | (refine Qb ?_ ?_; focus kernel_rfl) | (show zAN ..; first | ((first | refine zAK (sF2) ?_ ?_ | refine zAK (sH) ?_ ?_); (focus (simp only [go_sem, *]; done)); simp only [go_sem, *])) | ((with_reducible refine And.intro ?_ ?_); focus omega) | (refine zAB hK ?_; clear hK K'; simp only [go_sem, *]) | (simp only [zAH, zAA, go_sem, *]))
      all_goals first | contradiction | skip
      refine ⟨_, (by omega), [some 0, some 1], [], _, _, _, (by (simp only [Weak, go_sem, List.map_append, List.map_set, *] <;> (try simp (disch := omega) only [zAE]) <;> (try simp) <;> (try omega))), k + 1, false, rfl, (by omega), (by exact hFa), rfl, rfl, rfl⟩
    ·have hk3 : ¬ (k : Int) < s.facts.length := by omega
     have hA1 : A = true := by rw [← hA, zAX (by omega)]; rfl
     subst hA1
     rw [if_pos rfl] at hP
     clear hA sF1 hsm1
     repeat' (first | (show zAC ..; first | (refine Qr rfl ?_; try intro K' hK; try simp only [go_sem, *]) | (refine Qi rfl rfl rfl rfl (fun hb K' hK => ?_) (fun hb => ?_) <;> (have hc := hb; try simp only [go_sem] at hc; simp only [go_sem, *]))) | (show Hold ..; first | refine Qh rfl ?_ | refine zAG rfl Tryz.mixed (by kernel_rfl) ?_ | (refine zAD rfl ⟨_, rfl, fun hb => ?_, fun hb => ?_⟩ <;> (have hc := hb; try simp only [go_sem] at hc)) | refine zAI rfl ?_) | (refine Qb ?_ ?_; focus kernel_rfl) | ((with_reducible refine And.intro ?_ ?_); focus omega) | (refine zAB hK ?_; clear hK K'; simp only [go_sem, *]) | (simp only [zAH, zAA, go_sem, *]))
     all_goals first | contradiction | skip
     refine ⟨_, (by omega), [some 0, some 3], [], _, _, _, (by (simp only [Weak, go_sem, List.map_append, List.map_set, *] <;> (try simp (disch := omega) only [zAE]) <;> (try simp) <;> (try omega))), i + 1, acc ++ [C.getD i default], rfl, (by omega), (by rw [← hP]; simp), rfl, rfl, rfl⟩
   ·rw [if_neg (by decide)] at hP
    clear sF1 hsm1
    repeat' (first | (show zAC ..; first | (refine Qr rfl ?_; try intro K' hK; try simp only [go_sem, *]) | (refine Qi rfl rfl rfl rfl (fun hb K' hK => ?_) (fun hb => ?_) <;> (have hc := hb; try simp only [go_sem] at hc; simp only [go_sem, *]))) | (show Hold ..; first | refine Qh rfl ?_ | refine zAG rfl Tryz.mixed (by kernel_rfl) ?_ | (refine zAD rfl ⟨_, rfl, fun hb => ?_, fun hb => ?_⟩ <;> (have hc := hb; try simp only [go_sem] at hc)) | refine zAI rfl ?_) | (refine Qb ?_ ?_; focus kernel_rfl) | ((with_reducible refine And.intro ?_ ?_); focus omega) | (refine zAB hK ?_; clear hK K'; simp only [go_sem, *]) | (simp only [zAH, zAA, go_sem, *]))
    all_goals first | contradiction | skip
    all_goals
     refine ⟨_, (by omega), [some 0, some 1], [], _, _, _, (by (simp only [Weak, go_sem, List.map_append, List.map_set, *] <;> (try simp (disch := omega) only [zAE]) <;> (try simp) <;> (try omega))), i + 1, acc, rfl, (by omega), (by exact hP), rfl, rfl, rfl⟩
 ·have hi3 : ¬ (i : Int) < C.length := by omega
  rw [zAX (by omega), List.filter_nil, List.append_nil] at hP
  subst hP
  clear hCw hsmall
  refine zD6 (N := 93) (env := [(8, iV i), (7, .list (acc.map zBe)), (6, .list (C.map zBe)), (5, iV 0), (4, .list (acc.map zBe)), (3, .ptr 0 0)]) (As := [sBox s]) [some 0] [1] (by (simp only [Weak, go_sem, List.map_append, List.map_set, *] <;> (try simp (disch := omega) only [zAE]) <;> (try simp) <;> (try omega))) ?_
  repeat' (first | (show zAC ..; first | (refine Qr rfl ?_; try intro K' hK; try simp only [go_sem, *]) | (refine Qi rfl rfl rfl rfl (fun hb K' hK => ?_) (fun hb => ?_) <;> (have hc := hb; try simp only [go_sem] at hc; simp only [go_sem, *]))) | (show Hold ..; first | refine Qh rfl ?_ | refine zAG rfl Tryz.mixed (by kernel_rfl) ?_ | (refine zAD rfl ⟨_, rfl, fun hb => ?_, fun hb => ?_⟩ <;> (have hc := hb; try simp only [go_sem] at hc)) | refine zAI rfl ?_) | (refine Qb ?_ ?_; focus kernel_rfl) | (show zAN ..; first | ((first | refine zAK (sE) ?_ ?_ | refine zAK (sw) ?_ ?_); (focus (simp only [go_sem, *]; done)); simp only [go_sem, *])) | ((with_reducible refine And.intro ?_ ?_); focus omega) | (refine zAB hK ?_; clear hK K'; simp only [go_sem, *]) | (simp only [zAH, zAA, go_sem, *]))
  all_goals first | contradiction | skip
  (refine ⟨[_], [], [], ⟨rfl, trivial⟩, ?_⟩; simp only [go_sem, *])
end Go.Abs

