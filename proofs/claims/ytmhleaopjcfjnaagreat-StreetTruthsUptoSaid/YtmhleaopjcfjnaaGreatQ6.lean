/-
  WHAT THE PROOF STANDS ON, PART 6: contracts of the program's functions and the logic that they are proved in. No condition.
-/
import Derived.Test.YtmhleaopjcfjnaaGreatQ5
set_option maxRecDepth 100000
set_option maxHeartbeats 4000000
set_option linter.unusedVariables false
set_option linter.unusedSimpArgs false
set_option linter.unusedSectionVars false
namespace Go.Abs
open Go
def zPG (p : zLI) (l : List Change) : List Change := l.filter fun c => decide (can p c = 0)
def zNz (kind : Int) (p : zLI) (s : Nat) : List Change := (List.range' s (p.length - s)).flatMap fun s => zPG p (E6 kind p s)
def chK : Nat → zLI → List Change
 | 0, _ => []
 | m + 1, p => zNz (6 - (m : Nat)) p 0 ++ chK m p
def g1 (q : zLI) (p : zLI) (c : Change) : Option (List Change) := (t6 0 (u4 p c) q).map (c :: ·)
def g2 (q : zLI) (p : zLI) (c : Change) : Option (List Change) := (t6 1 (u4 p c) q).map (c :: ·)
end Go.Abs

namespace Go.Abs
open Go
def zMj (p : zLI) : Nat → Dice → List Change → List Change × Dice
 | 0, d, out => (out, d)
 | n + 1, d, out => zMj p n (N0 d p).2 (out ++ [(N0 d p).1])
def zO6 (p : zLI) (ways : Int) (d : Dice) : List Change × Dice := zMj p (u1 1 ways d).toNat (w7 1 ways d) []
def zMh (p : zLI) (ways : Int) : Nat → Dice → List (List Change) → List (List Change) × Dice
 | 0, d, out => (out, d)
 | n + 1, d, out => zMh p ways n (zO6 p ways d).2 (out ++ [(zO6 p ways d).1])
def zMw (l : List House) (d : Dice) : House := l.getD (toN ((l.length : Int) - 1) d).toNat default
def zMb (l : List House) (d : Dice) : Dice := toD ((l.length : Int) - 1) d
def zMu (a b : House) (t : Bool) : Fact := if t = true then ⟨a, a⟩ else ⟨a, b⟩
def zMn (l : List House) (d : Dice) : Fact := zMu (zMw l d) (zMw l (zMb l d)) (Z1 2 (zMb l (zMb l d)))
def zMm (l : List House) (d : Dice) : Dice := u6 2 (zMb l (zMb l d))
def zMe (l : List House) : Nat → Dice → List Fact → List Fact × Dice
 | 0, d, out => (out, d)
 | n + 1, d, out => if l.length = 0 then (out, d) else zMe l n (zMm l d) (out ++ [zMn l d])
def zMo (p : zLI) (steps ways : Int) (d : Dice) : List (List Change) × Dice := zMh p ways (toN steps d).toNat (toD steps d) []
def zMp (p : zLI) (facts : Int) (d : Dice) : List Fact × Dice := zMe (y4 p) (toN facts d).toNat (toD facts d) []
def zMy (p : zLI) (a : List (List Change) × Dice) (facts : Int) : Story × Dice := (⟨p, a.1, (zMp p facts a.2).1⟩, (zMp p facts a.2).2)
def zMz (P : zLI × Dice) (steps ways facts : Int) : Story × Dice := zMy P.1 (zMo P.1 steps ways P.2) facts
def zMf (d : Dice) (houses steps ways facts : Int) : Story × Dice := zMz (Q8 d houses) steps ways facts
theorem zNm (p : zLI) : ∀ (n : Nat) (d : Dice) (out : List Change), (zMj p n d out).2.list = d.list
 | 0, d, out => rfl
 | n + 1, d, out => by rw [zMj, zNm p n, zI4]
theorem zNl (p : zLI) (w : Int) (d : Dice) : (zO6 p w d).2.list = d.list := by unfold zO6; rw [zNm, S5]
theorem zNf (p : zLI) (w : Int) : ∀ (n : Nat) (d : Dice) (out : List (List Change)), (zMh p w n d out).2.list = d.list
 | 0, d, out => rfl
 | n + 1, d, out => by rw [zMh, zNf p w n, zNl]
theorem zNh (p : zLI) (s w : Int) (d : Dice) : (zMo p s w d).2.list = d.list := by unfold zMo; rw [zNf, p8]
theorem zMs (l : List House) (d : Dice) : (zMb l d).list = d.list := p8 _ _
theorem zNJ (l : List House) (d : Dice) : (zMm l d).list = d.list := by unfold zMm; rw [M7, zMs, zMs]
theorem zNL (l : List House) : ∀ (n : Nat) (d : Dice) (out : List Fact), (zMe l n d out).2.list = d.list
 | 0, d, out => rfl
 | n + 1, d, out => by
  rw [zMe]
  split
  ·rfl
  ·rw [zNL l n, zNJ]
theorem zOe (d : Dice) (h s w f : Int) : (zMf d h s w f).2.list = d.list := by
 unfold zMf zMz zMy zMp
 simp only [zNL, p8, zNh, zKW]
theorem zN0 (d : Dice) (p : zLI) (k s : Int) (h : 1 ≤ k ∧ k ≤ 7) : (K9 d p k s).1.kind = k := by
 unfold K9
 split
 ·rename_i e; exact e.symm
 ·split
  ·rename_i e; simp only; split <;> exact e.symm
  ·split <;> rfl
theorem zN1 (d : Dice) (p : zLI) : zLL (N0 d p).1.kind 1 7 = true := by
 have h := X0 (lo := 1) (hi := 7) (by omega) d
 unfold N0
 rw [zN0 _ _ _ _ h, betw_iff]; exact h
theorem zNn (p : zLI) : ∀ (n : Nat) (d : Dice) (out : List Change), (∀ c, c ∈ out → zLL c.kind 1 7 = true) → (zMj p n d out).1.length = out.length + n ∧ ∀ c, c ∈ (zMj p n d out).1 → zLL c.kind 1 7 = true
 | 0, d, out, h => ⟨rfl, h⟩
 | n + 1, d, out, h => by
  obtain ⟨h1, h2⟩ := zNn p n (N0 d p).2 (out ++ [(N0 d p).1]) (fun c hc => by
   rcases List.mem_append.1 hc with hc | hc
   ·exact h c hc
   ·rw [List.mem_singleton.1 hc]; exact zN1 d p)
  rw [zMj]
  exact ⟨by rw [h1]; simp; omega, h2⟩
theorem zOi (p : zLI) {w : Int} (hw : 1 ≤ w ∧ w ≤ 3) (d : Dice) : 0 < (zO6 p w d).1.length ∧ (zO6 p w d).1.length ≤ 3 ∧ ((zO6 p w d).1.length : Int) ≤ w ∧ j1 (zO6 p w d).1 = 0 := by
 have h := X0 (lo := 1) (hi := w) hw.1 d
 obtain ⟨h1, h2⟩ := zNn p (u1 1 w d).toNat (w7 1 w d) [] (by simp)
 simp only [List.length_nil, Nat.zero_add] at h1
 unfold zO6
 rw [zH9, h1]
 exact ⟨by omega, by omega, by omega, h2⟩
theorem zNg (p : zLI) {w : Int} (hw : 1 ≤ w ∧ w ≤ 3) : ∀ (n : Nat) (d : Dice) (out : List (List Change)), (∀ x, x ∈ out → 0 < x.length ∧ x.length ≤ 3 ∧ (x.length : Int) ≤ w ∧ j1 x = 0) →
  (zMh p w n d out).1.length = out.length + n ∧ ∀ x, x ∈ (zMh p w n d out).1 → 0 < x.length ∧ x.length ≤ 3 ∧ (x.length : Int) ≤ w ∧ j1 x = 0
 | 0, d, out, h => ⟨rfl, h⟩
 | n + 1, d, out, h => by
  obtain ⟨h1, h2⟩ := zNg p hw n (zO6 p w d).2 (out ++ [(zO6 p w d).1]) (fun c hc => by
   rcases List.mem_append.1 hc with hc | hc
   ·exact h c hc
   ·rw [List.mem_singleton.1 hc]; exact zOi p hw d)
  rw [zMh]
  exact ⟨by rw [h1]; simp; omega, h2⟩
theorem zMx {l : List House} (h : l.length ≠ 0) (d : Dice) : zMw l d ∈ l := by
 have := zAW (n := (l.length : Int) - 1) (by omega) d
 exact w6 (by omega)
theorem zN4 {l : List House} (h : l.length ≠ 0) (d : Dice) : (zMn l d).src ∈ l ∧ (zMn l d).dst ∈ l := by
 unfold zMn zMu
 split
 ·exact ⟨zMx h _, zMx h _⟩
 ·exact ⟨zMx h _, zMx h _⟩
theorem zNM (l : List House) : ∀ (n : Nat) (d : Dice) (out : List Fact), (∀ f, f ∈ out → f.src ∈ l ∧ f.dst ∈ l) → (zMe l n d out).1.length ≤ out.length + n ∧ ∀ f, f ∈ (zMe l n d out).1 → f.src ∈ l ∧ f.dst ∈ l
 | 0, d, out, h => ⟨Nat.le_refl _, h⟩
 | n + 1, d, out, h => by
  rw [zMe]
  split
  ·exact ⟨by simp, h⟩
  ·rename_i hl
   obtain ⟨h1, h2⟩ := zNM l n (zMm l d) (out ++ [zMn l d]) (fun c hc => by
    rcases List.mem_append.1 hc with hc | hc
    ·exact h c hc
    ·rw [List.mem_singleton.1 hc]; exact zN4 hl d)
   exact ⟨by simp only [List.length_append, List.length_singleton] at h1; omega, h2⟩
structure Small (s : Story) (steps ways facts : Int) : Prop where
 told : Told s
 steps : (s.steps.length : Int) ≤ steps
 ways : ∀ w, w ∈ s.steps → (w.length : Int) ≤ ways
 facts : (s.facts.length : Int) ≤ facts
 dst : ∀ f, f ∈ s.facts → f.dst ∈ y4 s.first
theorem zM8 {d : Dice} {houses steps ways facts : Int} (hh : houses ≤ 8) (hs : 0 ≤ steps ∧ steps ≤ 3) (hw : 1 ≤ ways ∧ ways ≤ 3) (hf : 0 ≤ facts ∧ facts ≤ 4) : Small (zMf d houses steps ways facts).1 steps ways facts := by
 have v := zKX (d := d) hh
 unfold zMf
 generalize Q8 d houses = P at *
 obtain ⟨p, d1⟩ := P
 simp only at v
 have n1 := zAW hs.1 d1
 obtain ⟨a1, a2⟩ := zNg p hw (toN steps d1).toNat (toD steps d1) [] (by simp)
 unfold zMz zMy zMo
 generalize zMh p ways (toN steps d1).toNat (toD steps d1) [] = A at *
 obtain ⟨w, d2⟩ := A
 simp only [List.length_nil, Nat.zero_add] at a1 a2
 have n2 := zAW hf.1 d2
 obtain ⟨b1, b2⟩ := zNM (y4 p) (toN facts d2).toNat (toD facts d2) [] (by simp)
 unfold zMp
 generalize zMe (y4 p) (toN facts d2).toNat (toD facts d2) [] = B at *
 obtain ⟨f, d3⟩ := B
 simp only [List.length_nil, Nat.zero_add] at b1 b2
 refine ⟨⟨v, ?_, fun x hx => ?_, ?_, fun x hx => ?_⟩, ?_, fun x hx => ?_, ?_, fun x hx => (b2 x hx).2⟩
 ·simp only; omega
 ·have := a2 x hx; exact ⟨this.1, this.2.1, this.2.2.2⟩
 ·simp only; omega
 ·obtain ⟨h1, h2⟩ := b2 x hx
  obtain ⟨m1, m2, m3⟩ := mem_houses.1 h2
  refine ⟨h1, betw_iff.2 ⟨m1, by simp only; omega⟩, ?_⟩
  exact (v.row _).ok _ m3
 ·simp only; omega
 ·exact (a2 x hx).2.2.1
 ·simp only; omega
end Go.Abs

namespace Go.Abs
open Go
@[reducible] def Truth.encR (p : zLI) (t : Truth) : AV := .agg [.list (t.ways.map iV), .list (t.fin.map y6), .list ((y4 p).map fun h => r8 (t.now h))]
attribute [go_sem] Truth.encR
def zMY (s : Story) : Nat → Truth → List Truth
 | 0, t => [t]
 | n + 1, t => (List.range' 0 (s7 s t.ways.length).length).flatMap fun i => if can t.fin ((s7 s t.ways.length).getD i default) = 0 then zMY s n (j7 t ((s7 s t.ways.length).getD i default) i) else []
def zMa (s : Story) (n : Nat) (t : Truth) (i : Nat) : List Truth :=
 (List.range' i ((s7 s t.ways.length).length - i)).flatMap fun i => if can t.fin ((s7 s t.ways.length).getD i default) = 0 then zMY s n (j7 t ((s7 s t.ways.length).getD i default) i) else []
theorem zN9 {s : Story} {n : Nat} {t : Truth} : zMY s (n + 1) t = zMa s n t 0 := by rw [zMY, zMa, Nat.sub_zero]
theorem zNO {s : Story} {n i : Nat} {t : Truth} (h : i < (s7 s t.ways.length).length) :
  zMa s n t i = (if can t.fin ((s7 s t.ways.length).getD i default) = 0 then zMY s n (j7 t ((s7 s t.ways.length).getD i default) i) else []) ++ zMa s n t (i + 1) := by
 unfold zMa
 rw [show (s7 s t.ways.length).length - i = ((s7 s t.ways.length).length - (i + 1)) + 1 by omega, List.range'_succ, List.flatMap_cons]
theorem zN8 {s : Story} {n i : Nat} {t : Truth} (h : i < (s7 s t.ways.length).length) (hc : can t.fin ((s7 s t.ways.length).getD i default) = 0) :
  zMa s n t i = zMY s n (j7 t ((s7 s t.ways.length).getD i default) i) ++ zMa s n t (i + 1) := by rw [zNO h, if_pos hc]
theorem zN7 {s : Story} {n i : Nat} {t : Truth} (h : i < (s7 s t.ways.length).length) (hc : can t.fin ((s7 s t.ways.length).getD i default) ≠ 0) :
  zMa s n t i = zMa s n t (i + 1) := by rw [zNO h, if_neg hc, List.nil_append]
theorem zN6 {s : Story} {n i : Nat} {t : Truth} (h : (s7 s t.ways.length).length ≤ i) : zMa s n t i = [] := by
 unfold zMa
 rw [show (s7 s t.ways.length).length - i = 0 by omega]; rfl
theorem zNP {s : Story} : ∀ (n : Nat) (t : Truth), (zMY s n t).filter (Q0 s.facts) = p4 s n t
 | 0, t => by
  rw [zMY, C4]
  by_cases h : Q0 s.facts t = true
  ·rw [if_pos h, List.filter_cons_of_pos h]; rfl
  ·rw [if_neg h, List.filter_cons_of_neg h]; rfl
 | n + 1, t => by
  rw [zMY, p4, D3]
  refine D7 (fun i _ => ?_)
  split
  ·exact zNP n _
  ·rfl
def zMk (s : Story) : List Truth := zMY s s.steps.length (Y9 s)
theorem zM2 (s : Story) : (zMk s).filter (Q0 s.facts) = t8 s := zNP _ _
theorem zNQ {s : Story} : ∀ (n : Nat) {t : Truth}, TOk s n t → ∀ x, x ∈ zMY s n t → TOk s 0 x
 | 0, t, o, x, hx => by
  rw [zMY] at hx
  rw [List.mem_singleton.1 hx]; exact o
 | n + 1, t, o, x, hx => by
  rw [zMY] at hx
  obtain ⟨i, _, hx⟩ := List.mem_flatMap.1 hx
  split at hx
  ·rename_i hc
   exact zNQ n (o.next hc i) x hx
  ·simp at hx
theorem zM4 {s : Story} (hw : ∀ w, w ∈ s.steps → w.length ≤ 3) : ∀ (n : Nat) (t : Truth), (zMY s n t).length ≤ 3 ^ n
 | 0, t => by simp [zMY]
 | n + 1, t => by
  rw [zMY]
  have hl : (s7 s t.ways.length).length ≤ 3 := by
   unfold s7
   by_cases h : t.ways.length < s.steps.length
   ·exact hw _ (w6 h)
   ·have e : s.steps[t.ways.length]? = none := List.getElem?_eq_none (by omega)
    simp only [List.getD, e, Option.getD_none]; show ([] : List Change).length ≤ 3; simp
  have key : ∀ (k i : Nat) (g : Nat → List Truth), (∀ i, (g i).length ≤ 3 ^ n) → ((List.range' i k).flatMap g).length ≤ k * 3 ^ n := by
   intro k
   induction k with
   | zero => intro i g _; simp
   | succ k ih =>
    intro i g hg
    rw [List.range'_succ, List.flatMap_cons, List.length_append, Nat.succ_mul]
    have := ih (i + 1) g hg
    have := hg i
    omega
  refine Nat.le_trans (key _ 0 _ (fun i => ?_)) (Nat.le_trans (Nat.mul_le_mul_right (3 ^ n) hl) (by rw [Nat.pow_succ]; omega))
  split
  ·exact zM4 hw n _
  ·simp
theorem zNp {s : Story} (v : Valid s.first) : ∀ x, x ∈ zMk s → TOk s 0 x := zNQ _ (zBA v)
theorem zNo {s : Story} (o : Told s) : (zMk s).length ≤ 27 :=
 Nat.le_trans (zM4 (fun w hw => (o.ways w hw).2.1) _ _) (Nat.pow_le_pow_right (by omega) o.steps : 3 ^ s.steps.length ≤ 3 ^ 3)
def zO4 (m : List Move) (l : List House) : List House := (m.filter fun x => decide (x.src ∈ l)).map Move.dst
theorem zNv {m : List Move} {l : List House} {i : Nat} (hi : i < m.length) (q : (m.getD i default).src ∈ l) : zO4 (m.drop i) l = (m.getD i default).dst :: zO4 (m.drop (i + 1)) l := by
 unfold zO4; rw [v3 hi, List.filter_cons_of_pos (by simpa using q)]; rfl
theorem zNu {m : List Move} {l : List House} {i : Nat} (hi : i < m.length) (q : ¬ (m.getD i default).src ∈ l) : zO4 (m.drop i) l = zO4 (m.drop (i + 1)) l := by
 unfold zO4; rw [v3 hi, List.filter_cons_of_neg (by simpa using q)]
theorem zNt (m : List Move) (l : List House) : (zO4 m l).length ≤ m.length := by
 unfold zO4; rw [List.length_map]; exact List.length_filter_le _ _
theorem zNx (p : zLI) (c : Change) (l : List House) (hl : ∀ h, h ∈ l → h ∈ y4 p) : w8 (zO4 (l9 p c) l) = w8 (l.flatMap (mv p c)) := by
 refine zKy (fun z => ?_)
 unfold zO4 l9
 simp only [List.mem_map, List.mem_filter, List.mem_flatMap, decide_eq_true_eq]
 constructor
 ·rintro ⟨m, ⟨⟨h, h1, y, h2, rfl⟩, h3⟩, rfl⟩
  exact ⟨h, h3, h2⟩
 ·rintro ⟨h, h1, h2⟩
  exact ⟨⟨h, z⟩, ⟨⟨h, hl h h1, z, h2, rfl⟩, h1⟩, rfl⟩
end Go.Abs

namespace Go.Abs
open Go Go.Proofs Tryz
attribute [local irreducible] z3 Hold q7
def zO1 (l : List Move) (h : House) : Option House := (l.find? fun m => decide (m.dst = h)).map Move.src
def zO3 : House := ⟨0, zeroPlate⟩
end Go.Abs

namespace Go.Abs
open Go Go.Proofs Tryz
attribute [local irreducible] z3 Hold q7
theorem zOZ (p : zLI) (h : House) (h1 : p.length ≤ 1048576) (h2 : ∀ l, l ∈ p → l.length ≤ 1048576) : zLJ prog 104 [y5 p, h.enc] [] (bV (decide (h ∈ y4 p))) [] := by
 have s1 := u2 h.street 0 ((p.length : Int) - 1)
 have w1 : IntKind.i64.wrap ((p.length : Int) - 1) = (p.length : Int) - 1 := wrap_i64 (by omega) (by omega)
 by_cases q : 0 ≤ h.street ∧ h.street ≤ (p.length : Int) - 1
 ·have b : zLL h.street 0 ((p.length : Int) - 1) = true := betw_iff.2 q
  rw [b] at s1
  clear b
  obtain ⟨q1, q2⟩ := q
  have hs' : h.street.toNat < p.length := by omega
  have hl : (z9 p h.street).length ≤ 1048576 := by
   unfold z9; exact h2 _ (w6 hs')
  have hR : decide (h ∈ y4 p) = decide (h.plate ∈ z9 p h.street) := by
   rw [decide_eq_decide, mem_houses]
   exact ⟨fun e => e.2.2, fun e => ⟨q1, by omega, e⟩⟩
  rw [hR]
  clear hR
  refine y3 func104 rfl (fun E hE => ?_); simp only [go_sem, ntmps104]
  repeat' (first | (show z3 ..; first | (refine Qr rfl ?_; try intro _ hK; try simp only [go_sem, *])) | (show Hold ..; first | refine Qh rfl ?_ | refine q6 rfl mixed (by kernel_rfl) ?_ | (refine z7 rfl ⟨_, rfl, fun hb => ?_, fun hb => ?_⟩ <;> (have hc := hb; try simp only [go_sem] at hc)) | refine z8 rfl ?_) | (refine Qb ?_ ?_; focus kernel_rfl) | (show q7 ..; first | (refine q8 (s1) ?_ ?_; (focus (simp only [go_sem, *]; done)); simp only [go_sem, *])) | ((with_reducible refine And.intro ?_ ?_); focus omega) | (refine z6 hK ?_; clear hK; simp only [go_sem, *]) | (simp only [z5, z4, go_sem, *]))
  all_goals first | contradiction | omega | skip
  generalize hll : z9 p h.street = l at *
  refine y8 rfl (fun zn zN zenv zAs => ∃ (i : Nat), zn = (l.length) - i ∧ i ≤ (l.length) ∧ (h.plate ∉ l.take i) ∧ zN = 37 ∧ zenv = [(5, iV i), (2, .ptr 0 0), (3, .ptr 1 0)] ∧ zAs = [.box [.list (p.map y6)], .box [iV h.street, iV h.plate.number, iV h.plate.letter]]) (l.length) ⟨[some 0, some 1], [], _, _, _, (by (simp only [Weak, go_sem, List.map_append, List.map_set, *] <;> (try simp (disch := omega) only [q9]) <;> (try simp) <;> (try omega))), 0, (by simp), (by simp), (by simp), rfl, rfl, rfl⟩ ?_; rintro _ _ _ _ ⟨i, rfl, hi, hP, rfl, rfl, rfl⟩
  by_cases hi : i < l.length
  ·by_cases q : l.getD i default = h.plate
   ·have q' : decide (l.getD i default = h.plate) = true := decide_eq_true q
    have hm : decide (h.plate ∈ l) = true := decide_eq_true (by rw [← q]; exact w6 hi)
    clear q
    rw [hm]
    repeat' (first | (show z3 ..; first | (refine Qr rfl ?_; try intro _ hK; try simp only [go_sem, *])) | (show Hold ..; first | refine Qh rfl ?_ | refine q6 rfl mixed (by kernel_rfl) ?_ | (refine z7 rfl ⟨_, rfl, fun hb => ?_, fun hb => ?_⟩ <;> (have hc := hb; try simp only [go_sem] at hc)) | refine z8 rfl ?_) | (refine Qb ?_ ?_; focus kernel_rfl) | ((with_reducible refine And.intro ?_ ?_); focus omega) | (refine z6 hK ?_; clear hK; simp only [go_sem, *]) | (simp only [z5, z4, go_sem, *]))
    all_goals first | contradiction | omega | skip
    (refine ⟨[_], [], [], ⟨rfl, trivial⟩, ?_⟩; simp only [go_sem, *])
   ·have q' : decide (l.getD i default = h.plate) = false := decide_eq_false q
    repeat' (first | (show z3 ..; first | (refine Qr rfl ?_; try intro _ hK; try simp only [go_sem, *])) | (show Hold ..; first | refine Qh rfl ?_ | refine q6 rfl mixed (by kernel_rfl) ?_ | (refine z7 rfl ⟨_, rfl, fun hb => ?_, fun hb => ?_⟩ <;> (have hc := hb; try simp only [go_sem] at hc)) | refine z8 rfl ?_) | (refine Qb ?_ ?_; focus kernel_rfl) | ((with_reducible refine And.intro ?_ ?_); focus omega) | (refine z6 hK ?_; clear hK; simp only [go_sem, *]) | (simp only [z5, z4, go_sem, *]))
    all_goals first | contradiction | omega | skip
    refine ⟨_, (by omega), [some 0, some 1], [], _, _, _, (by (simp only [Weak, go_sem, List.map_append, List.map_set, *] <;> (try simp (disch := omega) only [q9]) <;> (try simp) <;> (try omega))), i + 1, rfl, (by omega), (by exact zCo hi hP q), rfl, rfl, rfl⟩
  ·rw [List.take_of_length_le (by omega)] at hP
   have hm : decide (h.plate ∈ l) = false := decide_eq_false hP
   rw [hm]
   repeat' (first | (show z3 ..; first | (refine Qr rfl ?_; try intro _ hK; try simp only [go_sem, *])) | (show Hold ..; first | refine Qh rfl ?_ | refine q6 rfl mixed (by kernel_rfl) ?_ | (refine z7 rfl ⟨_, rfl, fun hb => ?_, fun hb => ?_⟩ <;> (have hc := hb; try simp only [go_sem] at hc)) | refine z8 rfl ?_) | (refine Qb ?_ ?_; focus kernel_rfl) | ((with_reducible refine And.intro ?_ ?_); focus omega) | (refine z6 hK ?_; clear hK; simp only [go_sem, *]) | (simp only [z5, z4, go_sem, *]))
   all_goals first | contradiction | omega | skip
   (refine ⟨[_], [], [], ⟨rfl, trivial⟩, ?_⟩; simp only [go_sem, *])
 ·have b : zLL h.street 0 ((p.length : Int) - 1) = false := betw_no.2 q
  rw [b] at s1
  have hm : decide (h ∈ y4 p) = false := decide_eq_false (fun e => q ⟨(mem_houses.1 e).1, by have := (mem_houses.1 e).2.1; omega⟩)
  rw [hm]
  clear b hm q
  refine y3 func104 rfl (fun E hE => ?_); simp only [go_sem, ntmps104]
  repeat' (first | (show z3 ..; first | (refine Qr rfl ?_; try intro _ hK; try simp only [go_sem, *])) | (show Hold ..; first | refine Qh rfl ?_ | refine q6 rfl mixed (by kernel_rfl) ?_ | (refine z7 rfl ⟨_, rfl, fun hb => ?_, fun hb => ?_⟩ <;> (have hc := hb; try simp only [go_sem] at hc)) | refine z8 rfl ?_) | (refine Qb ?_ ?_; focus kernel_rfl) | (show q7 ..; first | (refine q8 (s1) ?_ ?_; (focus (simp only [go_sem, *]; done)); simp only [go_sem, *])) | ((with_reducible refine And.intro ?_ ?_); focus omega) | (refine z6 hK ?_; clear hK; simp only [go_sem, *]) | (simp only [z5, z4, go_sem, *]))
  all_goals first | contradiction | omega | skip
  (refine ⟨[_], [], [], ⟨rfl, trivial⟩, ?_⟩; simp only [go_sem, *])
end Go.Abs

namespace Go.Abs
open Go Go.Proofs Tryz
attribute [local irreducible] z3 Hold q7
theorem zOa (a b : zLI) (h1 : a.length ≤ 4294967296) (hrl : ∀ l, l ∈ a → l.length ≤ 4294967296) : zLJ prog 113 [y5 a, y5 b] [] (bV (decide (a = b))) [] := by
 refine y3 func113 rfl (fun E hE => ?_); simp only [go_sem, ntmps113]
 repeat' (first | (show z3 ..; first | (refine Qr rfl ?_; try intro _ hK; try simp only [go_sem, *])) | (show Hold ..; first | refine Qh rfl ?_ | refine q6 rfl mixed (by kernel_rfl) ?_ | (refine z7 rfl ⟨_, rfl, fun hb => ?_, fun hb => ?_⟩ <;> (have hc := hb; try simp only [go_sem] at hc)) | refine z8 rfl ?_) | (refine Qb ?_ ?_; focus kernel_rfl) | ((with_reducible refine And.intro ?_ ?_); focus omega) | (refine z6 hK ?_; clear hK; simp only [go_sem, *]) | (simp only [z5, z4, go_sem, *]))
 ·(refine ⟨[_], [], [], ⟨rfl, trivial⟩, ?_⟩; simp only [go_sem, *])
  simp [Q2 (a := a) (b := b) (by assumption)]
 ·have hlb : a.length = b.length := by assumption
  refine y8 rfl (fun zn zN zenv zAs => ∃ (i : Nat), zn = (b.length) - i ∧ i ≤ (b.length) ∧ (a.take i = b.take i) ∧ zN = 61 ∧ zenv = [(5, iV i), (2, .ptr 0 0), (3, .ptr 1 0)] ∧ zAs = [zLW a, zLW b]) (b.length) ⟨[some 0, some 1], [], _, _, _, (by (simp only [Weak, go_sem, List.map_append, List.map_set, *] <;> (try simp (disch := omega) only [q9]) <;> (try simp) <;> (try omega))), 0, (by simp), (by simp), (by simp), rfl, rfl, rfl⟩ ?_; rintro _ _ _ _ ⟨i, rfl, hi, hP, rfl, rfl, rfl⟩
  by_cases hi2 : i < b.length
  ·have hra := hrl _ (w6 (l := a) (i := i) (by omega))
   have hia : i < a.length := by omega
   obtain ⟨e1, he1⟩ : ∃ e1, e1 = a.getD i default := ⟨_, rfl⟩
   obtain ⟨e2, he2⟩ : ∃ e2, e2 = b.getD i default := ⟨_, rfl⟩
   have nx0 : e1 = e2 → a.take (i + 1) = b.take (i + 1) := fun e => Y1 (by omega) (by omega) hP (by rw [← he1, ← he2]; exact e)
   have no0 : ¬ e1 = e2 → ¬ a = b := fun e => Y2 (i := i) (by rw [← he1, ← he2]; exact e)
   rw [← he1] at hra
   repeat' (first | (show z3 ..; first | (refine Qr rfl ?_; try intro _ hK; try simp only [go_sem, *])) | (show Hold ..; first | refine Qh rfl ?_ | refine q6 rfl mixed (by kernel_rfl) ?_ | (refine z7 rfl ⟨_, rfl, fun hb => ?_, fun hb => ?_⟩ <;> (have hc := hb; try simp only [go_sem] at hc)) | refine z8 rfl ?_) | (refine Qb ?_ ?_; focus kernel_rfl) | ((with_reducible refine And.intro ?_ ?_); focus omega) | (refine z6 hK ?_; clear hK; simp only [go_sem, *]) | (simp only [z5, z4, go_sem, *]))
   ·rw [← he1, ← he2] at *
    (refine ⟨[_], [], [], ⟨rfl, trivial⟩, ?_⟩; simp only [go_sem, *])
    simp [no0 (Q2 (by assumption))]
   ·have hl2 : (a.getD i default).length = (b.getD i default).length := by assumption
    have hkb : (b.getD i default).length ≤ 4294967296 := by rw [← hl2, ← he1]; exact hra
    refine y8 rfl (fun zn zN zenv zAs => ∃ (k : Nat), zn = ((b.getD i default).length) - k ∧ k ≤ ((b.getD i default).length) ∧ ((a.getD i default).take k = (b.getD i default).take k) ∧ zN = 61 ∧ zenv = [(6, iV k), (5, iV i), (2, .ptr 0 0), (3, .ptr 1 0)] ∧ zAs = [zLW a, zLW b]) ((b.getD i default).length) ⟨[some 0, some 1], [], _, _, _, (by (simp only [Weak, go_sem, List.map_append, List.map_set, *] <;> (try simp (disch := omega) only [q9]) <;> (try simp) <;> (try omega))), 0, (by simp), (by simp), (by simp), rfl, rfl, rfl⟩ ?_; rintro _ _ _ _ ⟨k, rfl, hk, hQ, rfl, rfl, rfl⟩
    repeat' (first | (show z3 ..; first | (refine Qr rfl ?_; try intro _ hK; try simp only [go_sem, *])) | (show Hold ..; first | refine Qh rfl ?_ | refine q6 rfl mixed (by kernel_rfl) ?_ | (refine z7 rfl ⟨_, rfl, fun hb => ?_, fun hb => ?_⟩ <;> (have hc := hb; try simp only [go_sem] at hc)) | refine z8 rfl ?_) | (refine Qb ?_ ?_; focus kernel_rfl) | ((with_reducible refine And.intro ?_ ?_); focus omega) | (refine z6 hK ?_; clear hK; simp only [go_sem, *]) | (simp only [z5, z4, go_sem, *]))
    ·(refine ⟨[_], [], [], ⟨rfl, trivial⟩, ?_⟩; simp only [go_sem, *])
     simp [no0 (by rw [he1, he2]; exact Y2 (i := k) (by assumption))]
    ·refine ⟨_, (by omega), [some 0, some 1], [], _, _, _, (by (simp only [Weak, go_sem, List.map_append, List.map_set, *] <;> (try simp (disch := omega) only [q9]) <;> (try simp) <;> (try omega))), k + 1, rfl, (by omega), (by exact Y1 (by omega) (by omega) hQ (by assumption)), rfl, rfl, rfl⟩
    ·refine ⟨_, (by omega), [some 0, some 1], [], _, _, _, (by (simp only [Weak, go_sem, List.map_append, List.map_set, *] <;> (try simp (disch := omega) only [q9]) <;> (try simp) <;> (try omega))), i + 1, rfl, (by omega), (by exact nx0 (by rw [he1, he2]; exact Y0 (by omega) hl2 hQ)), rfl, rfl, rfl⟩
  ·repeat' (first | (show z3 ..; first | (refine Qr rfl ?_; try intro _ hK; try simp only [go_sem, *])) | (show Hold ..; first | refine Qh rfl ?_ | refine q6 rfl mixed (by kernel_rfl) ?_ | (refine z7 rfl ⟨_, rfl, fun hb => ?_, fun hb => ?_⟩ <;> (have hc := hb; try simp only [go_sem] at hc)) | refine z8 rfl ?_) | (refine Qb ?_ ?_; focus kernel_rfl) | ((with_reducible refine And.intro ?_ ?_); focus omega) | (refine z6 hK ?_; clear hK; simp only [go_sem, *]) | (simp only [z5, z4, go_sem, *]))
   (refine ⟨[_], [], [], ⟨rfl, trivial⟩, ?_⟩; simp only [go_sem, *])
   simp [Y0 (by omega) hlb hP]
end Go.Abs

namespace Go.Abs
open Go Go.Proofs Tryz
attribute [local irreducible] z3 Hold q7
def SsP (p : zLI) (ways : Int) (k : Nat) (dd : Dice) (acc : List (List Change)) (R : List (List Change) × Dice) : Prop := zMh p ways k dd acc = R ∧ dd.list.length ≤ 4294967296 ∧ acc.length + k ≤ 3
theorem SsP.next {p : zLI} {ways : Int} {dd : Dice} {k : Nat} {acc : List (List Change)} {R : List (List Change) × Dice} (h : SsP p ways (k + 1) dd acc R) : SsP p ways k (zO6 p ways dd).2 (acc ++ [(zO6 p ways dd).1]) R := by
 obtain ⟨h1, h2, h3⟩ := h
 exact ⟨h1, by rw [zNl]; exact h2, by simp; omega⟩
def WsP (p : zLI) (k : Nat) (dd : Dice) (acc : List Change) (R : List Change × Dice) : Prop := zMj p k dd acc = R ∧ dd.list.length ≤ 4294967296 ∧ acc.length + k ≤ 3
theorem WsP.next {p : zLI} {dd : Dice} {k : Nat} {acc : List Change} {R : List Change × Dice} (h : WsP p (k + 1) dd acc R) : WsP p k (N0 dd p).2 (acc ++ [(N0 dd p).1]) R := by
 obtain ⟨h1, h2, h3⟩ := h
 exact ⟨h1, by rw [zI4]; exact h2, by simp; omega⟩
def FsP (l : List House) (k : Nat) (dd : Dice) (acc : List Fact) (R : List Fact × Dice) : Prop := zMe l k dd acc = R ∧ dd.list.length ≤ 4294967296 ∧ acc.length + k ≤ 4
theorem FsP.next {l : List House} {dd : Dice} {k : Nat} {acc : List Fact} {R : List Fact × Dice} (hl : l.length ≠ 0) (h : FsP l (k + 1) dd acc R) : FsP l k (zMm l dd) (acc ++ [zMn l dd]) R := by
 obtain ⟨h1, h2, h3⟩ := h
 rw [zMe, if_neg hl] at h1
 exact ⟨h1, by rw [zNJ]; exact h2, by simp; omega⟩
theorem zM7 (d : Dice) (houses steps ways facts : Int) (h : d.list.length ≤ 4294967296) (hm : houses ≤ 8) (hst : 0 ≤ steps ∧ steps ≤ 3) (hwy : 1 ≤ ways ∧ ways ≤ 3) (hfc : 0 ≤ facts ∧ facts ≤ 4) :
  zLJ prog 38 [.ptr 0 0, iV houses, iV steps, iV ways, iV facts] [u9 d] (zMf d houses steps ways facts).1.enc [u9 (zMf d houses steps ways facts).2] := by
 have s2 := zK4 d houses h hm
 have v := zKX (d := d) hm
 have hl := zKW d houses
 unfold zMf
 generalize Q8 d houses = P at *
 obtain ⟨p, d1⟩ := P
 simp only at s2 v hl
 have hd1 : d1.list.length ≤ 4294967296 := by rw [hl]; exact h
 unfold zMz
 have st := L5 d1 steps hd1 (by omega)
 have hr := zAW hst.1 d1
 obtain ⟨n, hn⟩ : ∃ n : Nat, toN steps d1 = n := ⟨(toN steps d1).toNat, by omega⟩
 have h0 : SsP p ways (n - 0) (toD steps d1) [] (zMo p steps ways d1) := by
  unfold zMo
  rw [hn]
  exact ⟨by simp, by rw [p8]; exact hd1, by simp; omega⟩
 have hal := zNh p steps ways d1
 rw [hn] at st hr
 simp only
 generalize zMo p steps ways d1 = R1 at *
 obtain ⟨SW, d3⟩ := R1
 simp only at hal
 have hd3 : d3.list.length ≤ 4294967296 := by rw [hal]; exact hd1
 unfold zMy
 have sf := L5 d3 facts hd3 (by omega)
 have hr2 := zAW hfc.1 d3
 obtain ⟨m, hmm⟩ : ∃ m : Nat, toN facts d3 = m := ⟨(toN facts d3).toNat, by omega⟩
 have hf0 : FsP (y4 p) (m - 0) (toD facts d3) [] (zMp p facts d3) := by
  unfold zMp
  rw [hmm]
  exact ⟨by simp, by rw [p8]; exact hd3, by simp; omega⟩
 rw [hmm] at sf hr2
 simp only
 generalize zMp p facts d3 = R2 at *
 obtain ⟨FT, d5⟩ := R2
 simp only
 have hct := v.count
 have sho := zK2 p (by have := v.len; omega) (fun l hl => by have := (v.rows l hl).len; omega) (by omega)
 have hn3 : n ≤ 3 := by omega
 have hm4 : m ≤ 4 := by omega
 clear hn hmm hl hal hd1 hd3 h hst hfc hm
 generalize toD steps d1 = d2 at *
 generalize toD facts d3 = d4 at *
 refine y3 func38 rfl (fun E hE => ?_); simp only [go_sem, ntmps38]
 repeat' (first | (show z3 ..; first | (refine Qr rfl ?_; try intro _ hK; try simp only [go_sem, *]) | (refine Qi rfl rfl rfl rfl (fun hb _ hK => ?_) (fun hb => ?_) <;> (have hc := hb; try simp only [go_sem] at hc; simp only [go_sem, *]))) | (show Hold ..; first | refine Qh rfl ?_ | refine q6 rfl mixed (by kernel_rfl) ?_ | (refine z7 rfl ⟨_, rfl, fun hb => ?_, fun hb => ?_⟩ <;> (have hc := hb; try simp only [go_sem] at hc)) | refine z8 rfl ?_) | (refine Qb ?_ ?_; focus kernel_rfl) | (show q7 ..; first | (refine x8 [0] [] (s2) (by simp) ?_ ?_ (by simp) (.inl rfl) ?_ ?_ ?_; (focus (simp only [go_sem, *]; done)); (focus (simp only [go_sem, *]; done)); (focus (first | (simp; done) | (simp [go_sem]; done))); (focus (first | (simp; done) | (simp [go_sem]; done))); simp only [go_sem, *]) | (refine x8 [0] [] (st) (by simp) ?_ ?_ (by simp) (.inl rfl) ?_ ?_ ?_; (focus (simp only [go_sem, *]; done)); (focus (simp only [go_sem, *]; done)); (focus (first | (simp; done) | (simp [go_sem]; done))); (focus (first | (simp; done) | (simp [go_sem]; done))); simp only [go_sem, *])) | ((with_reducible refine And.intro ?_ ?_); focus omega) | (refine z6 hK ?_; clear hK; simp only [go_sem, *]) | (simp only [z5, z4, go_sem, *]))
 all_goals try contradiction
 clear s2 st
 refine y8 rfl (fun zn zN zenv zAs => ∃ (i : Nat) (dd : Dice) (acc : List (List Change)), zn = (n) - i ∧ i ≤ (n) ∧ (SsP p ways (n - i) dd acc (SW, d3)) ∧ zN = 95 ∧ zenv = [(12, iV ((n - i : Nat) : Int)), (11, .ptr 2 0), (10, .ptr 1 0), (3, iV ways), (4, iV facts), (0, .ptr 0 0)] ∧ zAs = [u9 dd, .box [zLb, zLb, zLb], .box [.list (p.map y6), .own 3 1 0 acc.length, zLb], .row 1 (acc.map Z8)]) (n) ⟨[some 0, some 1, some 2, none], [], _, _, _, (by (simp only [Weak, go_sem, List.map_append, List.map_set, *] <;> (try simp (disch := omega) only [q9]) <;> (try simp) <;> (try omega))), 0, d2, [], (by simp), (by simp), (by exact h0), rfl, rfl, rfl⟩ ?_; rintro _ _ _ _ ⟨i, dd, acc, rfl, hi, hP, rfl, rfl, rfl⟩
 clear h0
 by_cases hi2 : i < n
 ·obtain ⟨k, hk⟩ : ∃ k, n - i = k + 1 := ⟨n - i - 1, by omega⟩
  have hk2 : n - (i + 1) = k := by omega
  rw [hk] at hP ⊢
  have hnx := hP.next
  have hw1 : IntKind.i64.wrap (((k + 1 : Nat) : Int) - 1) = (k : Int) := by rw [wrap_i64 (by omega) (by omega)]; omega
  have hgt : ((k + 1 : Nat) : Int) > 0 := by omega
  obtain ⟨_, hdl, hal⟩ := hP
  have sF := W0 dd 1 ways hdl (by omega) (by omega)
  have hwr := X0 (lo := 1) (hi := ways) hwy.1 dd
  obtain ⟨w, hwn⟩ : ∃ w : Nat, u1 1 ways dd = w := ⟨(u1 1 ways dd).toNat, by omega⟩
  have hw0 : WsP p (w - 0) (w7 1 ways dd) [] (zO6 p ways dd) := by
   unfold zO6
   rw [hwn]
   exact ⟨by simp, by rw [S5]; exact hdl, by simp; omega⟩
  rw [hwn] at sF hwr
  clear hwn
  generalize w7 1 ways dd = d6 at *
  generalize zO6 p ways dd = W at *
  obtain ⟨WL, d7⟩ := W
  simp only at hnx
  repeat' (first | (show z3 ..; first | (refine Qr rfl ?_; try intro _ hK; try simp only [go_sem, *]) | (refine Qi rfl rfl rfl rfl (fun hb _ hK => ?_) (fun hb => ?_) <;> (have hc := hb; try simp only [go_sem] at hc; simp only [go_sem, *]))) | (show Hold ..; first | refine Qh rfl ?_ | refine q6 rfl mixed (by kernel_rfl) ?_ | (refine z7 rfl ⟨_, rfl, fun hb => ?_, fun hb => ?_⟩ <;> (have hc := hb; try simp only [go_sem] at hc)) | refine z8 rfl ?_) | (refine Qb ?_ ?_; focus kernel_rfl) | (show q7 ..; first | (refine x8 [0] [] (sF) (by simp) ?_ ?_ (by simp) (.inl rfl) ?_ ?_ ?_; (focus (simp only [go_sem, *]; done)); (focus (simp only [go_sem, *]; done)); (focus (first | (simp; done) | (simp [go_sem]; done))); (focus (first | (simp; done) | (simp [go_sem]; done))); simp only [go_sem, *])) | ((with_reducible refine And.intro ?_ ?_); focus omega) | (refine z6 hK ?_; clear hK; simp only [go_sem, *]) | (simp only [z5, z4, go_sem, *]))
  all_goals try contradiction
  clear sF
  refine y8 rfl (fun zn zN zenv zAs => ∃ (j : Nat) (de : Dice) (cs : List Change), zn = (w) - j ∧ j ≤ (w) ∧ (WsP p (w - j) de cs (WL, d7)) ∧ zN = 95 ∧ zenv = [(14, iV ((w - j : Nat) : Int)), (13, .ptr 4 0), (12, iV ((k + 1 : Nat) : Int)), (11, .ptr 2 0), (10, .ptr 1 0), (3, iV ways), (4, iV facts), (0, .ptr 0 0)] ∧ zAs = [u9 de, .box [zLb, zLb, zLb], .box [.list (p.map y6), .own 3 1 0 acc.length, zLb], .row 1 (acc.map Z8), .box [.own 5 7 0 cs.length], .row 7 (cs.map Change.enc)]) (w) ⟨[some 0, some 1, some 2, some 3, some 4, none], [], _, _, _, (by (simp only [Weak, go_sem, List.map_append, List.map_set, *] <;> (try simp (disch := omega) only [q9]) <;> (try simp) <;> (try omega))), 0, d6, [], (by simp), (by simp), (by exact hw0), rfl, rfl, rfl⟩ ?_; rintro _ _ _ _ ⟨j, de, cs, rfl, hj, hQ, rfl, rfl, rfl⟩
  clear hw0
  by_cases hj2 : j < w
  ·obtain ⟨b, hb1⟩ : ∃ b, w - j = b + 1 := ⟨w - j - 1, by omega⟩
   have hb2 : w - (j + 1) = b := by omega
   rw [hb1] at hQ ⊢
   have hny := hQ.next
   have hw2 : IntKind.i64.wrap (((b + 1 : Nat) : Int) - 1) = (b : Int) := by rw [wrap_i64 (by omega) (by omega)]; omega
   have hgt2 : ((b + 1 : Nat) : Int) > 0 := by omega
   obtain ⟨_, hel, hcl⟩ := hQ
   have sC := zK0 de p hel v
   generalize N0 de p = C at *
   obtain ⟨c, d8⟩ := C
   simp only at sC hny
   repeat' (first | (show z3 ..; first | (refine Qr rfl ?_; try intro _ hK; try simp only [go_sem, *]) | (refine Qi rfl rfl rfl rfl (fun hb _ hK => ?_) (fun hb => ?_) <;> (have hc := hb; try simp only [go_sem] at hc; simp only [go_sem, *]))) | (show Hold ..; first | refine Qh rfl ?_ | refine q6 rfl mixed (by kernel_rfl) ?_ | (refine z7 rfl ⟨_, rfl, fun hb => ?_, fun hb => ?_⟩ <;> (have hc := hb; try simp only [go_sem] at hc)) | refine z8 rfl ?_) | (refine Qb ?_ ?_; focus kernel_rfl) | (show q7 ..; first | (refine x8 [0] [] (sC) (by simp) ?_ ?_ (by simp) (.inl rfl) ?_ ?_ ?_; (focus (simp only [go_sem, *]; done)); (focus (simp only [go_sem, *]; done)); (focus (first | (simp; done) | (simp [go_sem]; done))); (focus (first | (simp; done) | (simp [go_sem]; done))); simp only [go_sem, *])) | ((with_reducible refine And.intro ?_ ?_); focus omega) | (refine z6 hK ?_; clear hK; simp only [go_sem, *]) | (simp only [z5, z4, go_sem, *]))
   all_goals try contradiction
   refine ⟨_, (by omega), [some 0, some 1, some 2, some 3, some 4, some 7], [], _, _, _, (by (simp only [Weak, go_sem, List.map_append, List.map_set, *] <;> (try simp (disch := omega) only [q9]) <;> (try simp) <;> (try omega))), j + 1, d8, cs ++ [c], rfl, (by omega), (by rw [hb2]; exact hny), rfl, rfl, rfl⟩
  ·have hj3 : w - j = 0 := by omega
   rw [hj3] at hQ ⊢
   obtain ⟨hQ1, _, hcl⟩ := hQ
   rw [zMj] at hQ1
   injection hQ1 with hQ1 hQ2
   subst hQ1 hQ2
   repeat' (first | (show z3 ..; first | (refine Qr rfl ?_; try intro _ hK; try simp only [go_sem, *]) | (refine Qi rfl rfl rfl rfl (fun hb _ hK => ?_) (fun hb => ?_) <;> (have hc := hb; try simp only [go_sem] at hc; simp only [go_sem, *]))) | (show Hold ..; first | refine Qh rfl ?_ | refine q6 rfl mixed (by kernel_rfl) ?_ | (refine z7 rfl ⟨_, rfl, fun hb => ?_, fun hb => ?_⟩ <;> (have hc := hb; try simp only [go_sem] at hc)) | refine z8 rfl ?_) | (refine Qb ?_ ?_; focus kernel_rfl) | ((with_reducible refine And.intro ?_ ?_); focus omega) | (refine z6 hK ?_; clear hK; simp only [go_sem, *]) | (simp only [z5, z4, go_sem, *]))
   all_goals try contradiction
   refine ⟨_, (by omega), [some 0, some 1, some 2, some 7], [], _, _, _, (by (simp only [Weak, go_sem, List.map_append, List.map_set, *] <;> (try simp (disch := omega) only [q9]) <;> (try simp) <;> (try omega))), i + 1, de, acc ++ [cs], rfl, (by omega), (by rw [hk2]; exact hnx), rfl, rfl, rfl⟩
 ·have hi3 : n - i = 0 := by omega
  rw [hi3] at hP ⊢
  obtain ⟨hP1, _, hal⟩ := hP
  rw [zMh] at hP1
  injection hP1 with hP1 hP2
  subst hP1 hP2
  generalize hho : y4 p = H at *
  repeat' (first | (show z3 ..; first | (refine Qr rfl ?_; try intro _ hK; try simp only [go_sem, *]) | (refine Qi rfl rfl rfl rfl (fun hb _ hK => ?_) (fun hb => ?_) <;> (have hc := hb; try simp only [go_sem] at hc; simp only [go_sem, *]))) | (show Hold ..; first | refine Qh rfl ?_ | refine q6 rfl mixed (by kernel_rfl) ?_ | (refine z7 rfl ⟨_, rfl, fun hb => ?_, fun hb => ?_⟩ <;> (have hc := hb; try simp only [go_sem] at hc)) | refine z8 rfl ?_) | (refine Qb ?_ ?_; focus kernel_rfl) | (show q7 ..; first | (refine v5 (sho) ?_ ?_ ?_ ?_; (focus (simp only [go_sem, *]; done)); (focus (first | (simp; done) | (simp [go_sem]; done))); (focus (first | (simp; done) | (simp [go_sem]; done))); simp only [go_sem, *]) | (refine x8 [0] [] (sf) (by simp) ?_ ?_ (by simp) (.inl rfl) ?_ ?_ ?_; (focus (simp only [go_sem, *]; done)); (focus (simp only [go_sem, *]; done)); (focus (first | (simp; done) | (simp [go_sem]; done))); (focus (first | (simp; done) | (simp [go_sem]; done))); simp only [go_sem, *])) | ((with_reducible refine And.intro ?_ ?_); focus omega) | (refine z6 hK ?_; clear hK; simp only [go_sem, *]) | (simp only [z5, z4, go_sem, *]))
  all_goals try contradiction
  clear sho sf
  refine y8 rfl (fun zn zN zenv zAs => ∃ (j : Nat) (dd2 : Dice) (fs : List Fact), zn = (m) - j ∧ j ≤ (m) ∧ (FsP H (m - j) dd2 fs (FT, d5)) ∧ zN = 95 ∧ zenv = [(16, iV ((m - j : Nat) : Int)), (15, r8 H), (11, .ptr 2 0), (10, .ptr 1 0), (0, .ptr 0 0)] ∧ zAs = [u9 dd2, .box [zLb, zLb, zLb], .box [.list (p.map y6), .own 3 1 0 acc.length, .own 4 6 0 fs.length], .row 1 (acc.map Z8), .row 6 (fs.map Fact.enc)]) (m) ⟨[some 0, some 1, some 2, some 3, none], [4], _, _, _, (by (simp only [Weak, go_sem, List.map_append, List.map_set, *] <;> (try simp (disch := omega) only [q9]) <;> (try simp) <;> (try omega))), 0, d4, [], (by simp), (by simp), (by exact hf0), rfl, rfl, rfl⟩ ?_; rintro _ _ _ _ ⟨j, dd2, fs, rfl, hj, hQ, rfl, rfl, rfl⟩
  clear hf0
  by_cases hj2 : j < m
  ·obtain ⟨b, hb1⟩ : ∃ b, m - j = b + 1 := ⟨m - j - 1, by omega⟩
   have hb2 : m - (j + 1) = b := by omega
   rw [hb1] at hQ ⊢
   have hw2 : IntKind.i64.wrap (((b + 1 : Nat) : Int) - 1) = (b : Int) := by rw [wrap_i64 (by omega) (by omega)]; omega
   have hgt2 : ((b + 1 : Nat) : Int) > 0 := by omega
   by_cases h0 : H.length = 0
   ·have hz : ¬ ((H.length : Nat) : Int) > 0 := by omega
    obtain ⟨hQ1, _, hcl⟩ := hQ
    rw [zMe, if_pos h0] at hQ1
    injection hQ1 with hQ1 hQ2
    subst hQ1 hQ2
    repeat' (first | (show z3 ..; first | (refine Qr rfl ?_; try intro _ hK; try simp only [go_sem, *]) | (refine Qi rfl rfl rfl rfl (fun hb _ hK => ?_) (fun hb => ?_) <;> (have hc := hb; try simp only [go_sem] at hc; simp only [go_sem, *]))) | (show Hold ..; first | refine Qh rfl ?_ | refine q6 rfl mixed (by kernel_rfl) ?_ | (refine z7 rfl ⟨_, rfl, fun hb => ?_, fun hb => ?_⟩ <;> (have hc := hb; try simp only [go_sem] at hc)) | refine z8 rfl ?_) | (refine Qb ?_ ?_; focus kernel_rfl) | ((with_reducible refine And.intro ?_ ?_); focus omega) | (refine z6 hK ?_; clear hK; simp only [go_sem, *]) | (simp only [z5, z4, go_sem, *]))
    all_goals try contradiction
    refine ⟨[.agg [.list (p.map y6), .own 3 1 0 acc.length, .own 4 6 0 fs.length]], [some 0], [3, 4], ⟨by simp only [x9, go_sem], trivial⟩, ?_⟩
    simp only [go_sem, *]
   ·have hz : ((H.length : Nat) : Int) > 0 := by omega
    have hny := hQ.next h0
    obtain ⟨_, hel, hcl⟩ := hQ
    have hwl : IntKind.i64.wrap ((H.length : Int) - 1) = (H.length : Int) - 1 := wrap_i64 (by omega) (by omega)
    have sT1 := L5 dd2 ((H.length : Int) - 1) hel (by omega)
    have sT2 := L5 (zMb H dd2) ((H.length : Int) - 1) (by rw [zMs]; exact hel) (by omega)
    have sO := zAL (zMb H (zMb H dd2)) 2 (by rw [zMs, zMs]; exact hel) (by omega)
    have t1 := zAW (n := (H.length : Int) - 1) (by omega) dd2
    have t2 := zAW (n := (H.length : Int) - 1) (by omega) (zMb H dd2)
    change zLJ _ _ _ _ _ [u9 (zMb H dd2)] at sT1
    change zLJ _ _ _ _ _ [u9 (zMb H (zMb H dd2))] at sT2
    change zLJ _ _ _ _ _ [u9 (zMm H dd2)] at sO
    unfold zMn zMw at hny
    obtain ⟨a, ha⟩ : ∃ a : Nat, toN ((H.length : Int) - 1) dd2 = a := ⟨(toN ((H.length : Int) - 1) dd2).toNat, by omega⟩
    obtain ⟨c, hc2⟩ : ∃ a : Nat, toN ((H.length : Int) - 1) (zMb H dd2) = a := ⟨(toN ((H.length : Int) - 1) (zMb H dd2)).toNat, by omega⟩
    rw [ha] at sT1 t1 hny
    rw [hc2] at sT2 t2 hny
    simp only [Int.toNat_natCast] at hny
    clear ha hc2
    have ha : a < H.length := by omega
    have hc3 : c < H.length := by omega
    generalize zMm H dd2 = d9 at *
    generalize zMb H (zMb H dd2) = d8 at *
    generalize zMb H dd2 = d7 at *
    by_cases o : Z1 2 d8 = true
    ·rw [o] at sO hny
     unfold zMu at hny
     rw [if_pos rfl] at hny
     clear o
     repeat' (first | (show z3 ..; first | (refine Qr rfl ?_; try intro _ hK; try simp only [go_sem, *]) | (refine Qi rfl rfl rfl rfl (fun hb _ hK => ?_) (fun hb => ?_) <;> (have hc := hb; try simp only [go_sem] at hc; simp only [go_sem, *]))) | (show Hold ..; first | refine Qh rfl ?_ | refine q6 rfl mixed (by kernel_rfl) ?_ | (refine z7 rfl ⟨_, rfl, fun hb => ?_, fun hb => ?_⟩ <;> (have hc := hb; try simp only [go_sem] at hc)) | refine z8 rfl ?_) | (refine Qb ?_ ?_; focus kernel_rfl) | (show q7 ..; first | (refine x8 [0] [] (sT1) (by simp) ?_ ?_ (by simp) (.inl rfl) ?_ ?_ ?_; (focus (simp only [go_sem, *]; done)); (focus (simp only [go_sem, *]; done)); (focus (first | (simp; done) | (simp [go_sem]; done))); (focus (first | (simp; done) | (simp [go_sem]; done))); simp only [go_sem, *]) | (refine x8 [0] [] (sT2) (by simp) ?_ ?_ (by simp) (.inl rfl) ?_ ?_ ?_; (focus (simp only [go_sem, *]; done)); (focus (simp only [go_sem, *]; done)); (focus (first | (simp; done) | (simp [go_sem]; done))); (focus (first | (simp; done) | (simp [go_sem]; done))); simp only [go_sem, *]) | (refine x8 [0] [] (sO) (by simp) ?_ ?_ (by simp) (.inl rfl) ?_ ?_ ?_; (focus (simp only [go_sem, *]; done)); (focus (simp only [go_sem, *]; done)); (focus (first | (simp; done) | (simp [go_sem]; done))); (focus (first | (simp; done) | (simp [go_sem]; done))); simp only [go_sem, *])) | ((with_reducible refine And.intro ?_ ?_); focus omega) | (refine z6 hK ?_; clear hK; simp only [go_sem, *]) | (simp only [z5, z4, go_sem, *]))
     all_goals try contradiction
     refine ⟨_, (by omega), [some 0, some 1, some 2, some 3, some 7], [], _, _, _, (by (simp only [Weak, go_sem, List.map_append, List.map_set, *] <;> (try simp (disch := omega) only [q9]) <;> (try simp) <;> (try omega))), j + 1, d9, fs ++ [⟨H.getD a default, H.getD a default⟩], rfl, (by omega), (by rw [hb2]; exact hny), rfl, rfl, rfl⟩
    ·have o : Z1 2 d8 = false := by simpa using o
     rw [o] at sO hny
     unfold zMu at hny
     rw [if_neg (by decide)] at hny
     clear o
     repeat' (first | (show z3 ..; first | (refine Qr rfl ?_; try intro _ hK; try simp only [go_sem, *]) | (refine Qi rfl rfl rfl rfl (fun hb _ hK => ?_) (fun hb => ?_) <;> (have hc := hb; try simp only [go_sem] at hc; simp only [go_sem, *]))) | (show Hold ..; first | refine Qh rfl ?_ | refine q6 rfl mixed (by kernel_rfl) ?_ | (refine z7 rfl ⟨_, rfl, fun hb => ?_, fun hb => ?_⟩ <;> (have hc := hb; try simp only [go_sem] at hc)) | refine z8 rfl ?_) | (refine Qb ?_ ?_; focus kernel_rfl) | (show q7 ..; first | (refine x8 [0] [] (sT1) (by simp) ?_ ?_ (by simp) (.inl rfl) ?_ ?_ ?_; (focus (simp only [go_sem, *]; done)); (focus (simp only [go_sem, *]; done)); (focus (first | (simp; done) | (simp [go_sem]; done))); (focus (first | (simp; done) | (simp [go_sem]; done))); simp only [go_sem, *]) | (refine x8 [0] [] (sT2) (by simp) ?_ ?_ (by simp) (.inl rfl) ?_ ?_ ?_; (focus (simp only [go_sem, *]; done)); (focus (simp only [go_sem, *]; done)); (focus (first | (simp; done) | (simp [go_sem]; done))); (focus (first | (simp; done) | (simp [go_sem]; done))); simp only [go_sem, *]) | (refine x8 [0] [] (sO) (by simp) ?_ ?_ (by simp) (.inl rfl) ?_ ?_ ?_; (focus (simp only [go_sem, *]; done)); (focus (simp only [go_sem, *]; done)); (focus (first | (simp; done) | (simp [go_sem]; done))); (focus (first | (simp; done) | (simp [go_sem]; done))); simp only [go_sem, *])) | ((with_reducible refine And.intro ?_ ?_); focus omega) | (refine z6 hK ?_; clear hK; simp only [go_sem, *]) | (simp only [z5, z4, go_sem, *]))
     all_goals try contradiction
     refine ⟨_, (by omega), [some 0, some 1, some 2, some 3, some 7], [], _, _, _, (by (simp only [Weak, go_sem, List.map_append, List.map_set, *] <;> (try simp (disch := omega) only [q9]) <;> (try simp) <;> (try omega))), j + 1, d9, fs ++ [⟨H.getD a default, H.getD c default⟩], rfl, (by omega), (by rw [hb2]; exact hny), rfl, rfl, rfl⟩
  ·have hj3 : m - j = 0 := by omega
   rw [hj3] at hQ ⊢
   obtain ⟨hQ1, _, hcl⟩ := hQ
   rw [zMe] at hQ1
   injection hQ1 with hQ1 hQ2
   subst hQ1 hQ2
   repeat' (first | (show z3 ..; first | (refine Qr rfl ?_; try intro _ hK; try simp only [go_sem, *]) | (refine Qi rfl rfl rfl rfl (fun hb _ hK => ?_) (fun hb => ?_) <;> (have hc := hb; try simp only [go_sem] at hc; simp only [go_sem, *]))) | (show Hold ..; first | refine Qh rfl ?_ | refine q6 rfl mixed (by kernel_rfl) ?_ | (refine z7 rfl ⟨_, rfl, fun hb => ?_, fun hb => ?_⟩ <;> (have hc := hb; try simp only [go_sem] at hc)) | refine z8 rfl ?_) | (refine Qb ?_ ?_; focus kernel_rfl) | ((with_reducible refine And.intro ?_ ?_); focus omega) | (refine z6 hK ?_; clear hK; simp only [go_sem, *]) | (simp only [z5, z4, go_sem, *]))
   all_goals try contradiction
   refine ⟨[.agg [.list (p.map y6), .own 3 1 0 acc.length, .own 4 6 0 fs.length]], [some 0], [3, 4], ⟨by simp only [x9, go_sem], trivial⟩, ?_⟩
   simp only [go_sem, *]
end Go.Abs

namespace Go.Abs
open Go Go.Proofs Tryz
attribute [local irreducible] z3 Hold q7
theorem zNb (l : List House) (x : House) (h1 : l.length ≤ 4294967296) : zLJ prog 117 [r8 l, x.enc] [] (bV (decide (x ∈ l))) [] := by
 refine y3 func117 rfl (fun E hE => ?_); simp only [go_sem, ntmps117]
 repeat' (first | (show z3 ..; first | (refine Qr rfl ?_; try intro _ hK; try simp only [go_sem, *])) | (show Hold ..; first | refine Qh rfl ?_ | refine q6 rfl mixed (by kernel_rfl) ?_ | (refine z7 rfl ⟨_, rfl, fun hb => ?_, fun hb => ?_⟩ <;> (have hc := hb; try simp only [go_sem] at hc)) | refine z8 rfl ?_) | (refine Qb ?_ ?_; focus kernel_rfl) | ((with_reducible refine And.intro ?_ ?_); focus omega) | (refine z6 hK ?_; clear hK; simp only [go_sem, *]) | (simp only [z5, z4, go_sem, *]))
 refine y8 rfl (fun zn zN zenv zAs => ∃ (i : Nat), zn = (l.length) - i ∧ i ≤ (l.length) ∧ (x ∉ l.take i) ∧ zN = 18 ∧ zenv = [(5, iV i), (3, .ptr 0 0), (0, r8 l)] ∧ zAs = [.box [iV x.street, iV x.plate.number, iV x.plate.letter]]) (l.length) ⟨[some 0], [], _, _, _, (by (simp only [Weak, go_sem, List.map_append, List.map_set, *] <;> (try simp (disch := omega) only [q9]) <;> (try simp) <;> (try omega))), 0, (by simp), (by simp), (by simp), rfl, rfl, rfl⟩ ?_; rintro _ _ _ _ ⟨i, rfl, hi, hP, rfl, rfl, rfl⟩
 by_cases hi : i < l.length
 ·by_cases q : l.getD i default = x
  ·have q' : decide (l.getD i default = x) = true := decide_eq_true q
   have hm : decide (x ∈ l) = true := decide_eq_true (by rw [← q]; exact w6 hi)
   clear q
   repeat' (first | (show z3 ..; first | (refine Qr rfl ?_; try intro _ hK; try simp only [go_sem, *])) | (show Hold ..; first | refine Qh rfl ?_ | refine q6 rfl mixed (by kernel_rfl) ?_ | (refine z7 rfl ⟨_, rfl, fun hb => ?_, fun hb => ?_⟩ <;> (have hc := hb; try simp only [go_sem] at hc)) | refine z8 rfl ?_) | (refine Qb ?_ ?_; focus kernel_rfl) | ((with_reducible refine And.intro ?_ ?_); focus omega) | (refine z6 hK ?_; clear hK; simp only [go_sem, *]) | (simp only [z5, z4, go_sem, *]))
   all_goals first | contradiction | omega | skip
   (refine ⟨[_], [], [], ⟨rfl, trivial⟩, ?_⟩; simp only [go_sem, *])
  ·have q' : decide (l.getD i default = x) = false := decide_eq_false q
   repeat' (first | (show z3 ..; first | (refine Qr rfl ?_; try intro _ hK; try simp only [go_sem, *])) | (show Hold ..; first | refine Qh rfl ?_ | refine q6 rfl mixed (by kernel_rfl) ?_ | (refine z7 rfl ⟨_, rfl, fun hb => ?_, fun hb => ?_⟩ <;> (have hc := hb; try simp only [go_sem] at hc)) | refine z8 rfl ?_) | (refine Qb ?_ ?_; focus kernel_rfl) | ((with_reducible refine And.intro ?_ ?_); focus omega) | (refine z6 hK ?_; clear hK; simp only [go_sem, *]) | (simp only [z5, z4, go_sem, *]))
   all_goals first | contradiction | omega | skip
   refine ⟨_, (by omega), [some 0], [], _, _, _, (by (simp only [Weak, go_sem, List.map_append, List.map_set, *] <;> (try simp (disch := omega) only [q9]) <;> (try simp) <;> (try omega))), i + 1, rfl, (by omega), (by rw [j0 hi, List.mem_append, List.mem_singleton]; exact fun h => h.elim hP (fun e => q e.symm)), rfl, rfl, rfl⟩
 ·rw [List.take_of_length_le (by omega)] at hP
  have hm : decide (x ∈ l) = false := decide_eq_false hP
  repeat' (first | (show z3 ..; first | (refine Qr rfl ?_; try intro _ hK; try simp only [go_sem, *])) | (show Hold ..; first | refine Qh rfl ?_ | refine q6 rfl mixed (by kernel_rfl) ?_ | (refine z7 rfl ⟨_, rfl, fun hb => ?_, fun hb => ?_⟩ <;> (have hc := hb; try simp only [go_sem] at hc)) | refine z8 rfl ?_) | (refine Qb ?_ ?_; focus kernel_rfl) | ((with_reducible refine And.intro ?_ ?_); focus omega) | (refine z6 hK ?_; clear hK; simp only [go_sem, *]) | (simp only [z5, z4, go_sem, *]))
  all_goals first | contradiction | omega | skip
  (refine ⟨[_], [], [], ⟨rfl, trivial⟩, ?_⟩; simp only [go_sem, *])
theorem zOU (p : zLI) (c : Change) (l : List House) (v : Valid p) (f : Fit p c) (hl : l.length ≤ 4294967296) : zLJ prog 167 [y5 p, c.enc, r8 l] [] (r8 (w8 (zO4 (l9 p c) l))) [] := by
 have s1 := zHZ p c v f
 have hml := zBt p c
 have hcn := v.count
 have hMb : (l9 p c).length ≤ 48 := by omega
 have hcl := zNt (l9 p c) l
 have s2 := zAT (zO4 (l9 p c) l) (by omega)
 have hR0 : ([] : List House) ++ zO4 ((l9 p c).drop 0) l = zO4 (l9 p c) l := rfl
 have hRl : (zO4 (l9 p c) l).length ≤ 48 := by omega
 clear hml hcn hcl
 generalize w8 (zO4 (l9 p c) l) = S at *
 generalize zO4 (l9 p c) l = R at *
 generalize l9 p c = M at *
 refine y3 func167 rfl (fun E hE => ?_); simp only [go_sem, ntmps167]
 repeat' (first | (show z3 ..; first | (refine Qr rfl ?_; try intro _ hK; try simp only [go_sem, *])) | (show Hold ..; first | refine Qh rfl ?_ | (refine z7 rfl ⟨_, rfl, fun hb => ?_, fun hb => ?_⟩ <;> (have hc := hb; try simp only [go_sem] at hc)) | refine z8 rfl ?_) | (show q7 ..; first | (refine v5 (s1) ?_ ?_ ?_ ?_; (focus (simp only [go_sem, *]; done)); (focus (first | (simp; done) | (simp [go_sem]; done))); (focus (first | (simp; done) | (simp [go_sem]; done))); simp only [go_sem, *])) | ((with_reducible refine And.intro ?_ ?_); focus omega) | (refine z6 hK ?_; clear hK; simp only [go_sem, *]) | (simp only [z5, z4, go_sem, *]))
 all_goals try contradiction
 refine y8 rfl (fun zn zN zenv zAs => ∃ (i : Nat) (acc : List House), zn = (M.length) - i ∧ i ≤ (M.length) ∧ (acc ++ zO4 (M.drop i) l = R) ∧ zN = 36 ∧ zenv = [(9, iV i), (8, .own 0 6 0 M.length), (7, .own 1 3 0 acc.length), (2, r8 l)] ∧ zAs = [.row 6 (M.map Move.enc), .row 3 (acc.map House.enc)]) (M.length) ⟨[some 2, none], [], _, _, _, (by (simp only [Weak, go_sem, List.map_append, List.map_set, *] <;> (try simp (disch := omega) only [q9]) <;> (try simp) <;> (try omega))), 0, [], (by simp), (by simp), (by exact hR0), rfl, rfl, rfl⟩ ?_; rintro _ _ _ _ ⟨i, acc, rfl, hi, hP, rfl, rfl, rfl⟩
 clear hR0
 have hql := congrArg List.length hP
 simp only [List.length_append] at hql
 by_cases hi : i < M.length
 ·have hi3 : (i : Int) < M.length := by omega
  have sI := zNb l (M.getD i default).src hl
  by_cases q : (M.getD i default).src ∈ l
  ·rw [zNv hi q] at hP
   rw [decide_eq_true q] at sI
   clear q
   repeat' (first | (show z3 ..; first | (refine Qr rfl ?_; try intro _ hK; try simp only [go_sem, *])) | (show Hold ..; first | refine Qh rfl ?_ | (refine z7 rfl ⟨_, rfl, fun hb => ?_, fun hb => ?_⟩ <;> (have hc := hb; try simp only [go_sem] at hc)) | refine z8 rfl ?_) | (show q7 ..; first | (refine q8 (sI) ?_ ?_; (focus (simp only [go_sem, *]; done)); simp only [go_sem, *])) | ((with_reducible refine And.intro ?_ ?_); focus omega) | (refine z6 hK ?_; clear hK; simp only [go_sem, *]) | (simp only [z5, z4, go_sem, *]))
   all_goals try contradiction
   refine ⟨_, (by omega), [some 0, some 3], [], _, _, _, (by (simp only [Weak, go_sem, List.map_append, List.map_set, *] <;> (try simp (disch := omega) only [q9]) <;> (try simp) <;> (try omega))), i + 1, acc ++ [(M.getD i default).dst], rfl, (by omega), (by rw [← hP]; simp), rfl, rfl, rfl⟩
  ·rw [zNu hi q] at hP
   rw [decide_eq_false q] at sI
   clear q
   repeat' (first | (show z3 ..; first | (refine Qr rfl ?_; try intro _ hK; try simp only [go_sem, *])) | (show Hold ..; first | refine Qh rfl ?_ | (refine z7 rfl ⟨_, rfl, fun hb => ?_, fun hb => ?_⟩ <;> (have hc := hb; try simp only [go_sem] at hc)) | refine z8 rfl ?_) | (show q7 ..; first | (refine q8 (sI) ?_ ?_; (focus (simp only [go_sem, *]; done)); simp only [go_sem, *])) | ((with_reducible refine And.intro ?_ ?_); focus omega) | (refine z6 hK ?_; clear hK; simp only [go_sem, *]) | (simp only [z5, z4, go_sem, *]))
   all_goals try contradiction
   refine ⟨_, (by omega), [some 0, some 1], [], _, _, _, (by (simp only [Weak, go_sem, List.map_append, List.map_set, *] <;> (try simp (disch := omega) only [q9]) <;> (try simp) <;> (try omega))), i + 1, acc, rfl, (by omega), (by exact hP), rfl, rfl, rfl⟩
 ·have hi3 : ¬ (i : Int) < M.length := by omega
  have e : zO4 (M.drop i) l = [] := by rw [v4 (by omega)]; rfl
  rw [e, List.append_nil] at hP
  subst hP
  clear e
  repeat' (first | (show z3 ..; first | (refine Qr rfl ?_; try intro _ hK; try simp only [go_sem, *])) | (show Hold ..; first | refine Qh rfl ?_ | (refine z7 rfl ⟨_, rfl, fun hb => ?_, fun hb => ?_⟩ <;> (have hc := hb; try simp only [go_sem] at hc)) | refine z8 rfl ?_) | (show q7 ..; first | (refine r6 (s2) ?_ rfl ?_ ?_ ?_ ?_; (focus (simp only [go_sem, *]; done)); (focus (simp only [go_sem, *]; done)); (focus (first | (simp; done) | (simp [go_sem]; done))); (focus (first | (simp; done) | (simp [go_sem]; done))); simp only [go_sem, w9, *])) | ((with_reducible refine And.intro ?_ ?_); focus omega) | (refine z6 hK ?_; clear hK; simp only [go_sem, *]) | (simp only [z5, z4, go_sem, *]))
  all_goals try contradiction
  refine ⟨[r8 S], [], [], ⟨rfl, trivial⟩, ?_⟩; simp only [go_sem, *]
theorem zNc (s : Story) (hst : s.steps.length ≤ 4294967296) (hwl : ∀ w, w ∈ s.steps → w.length ≤ 4294967296) (hfl : s.facts.length ≤ 4294967296) (hpl : s.first.length ≤ 4294967296) (G : Int) (hG : r4 s = G) :
  zLJ prog 107 [s.enc] [] (iV G) [] := by
 have sc := zK6 s.first hpl
 by_cases hc0 : check s.first = 0
 ·rw [r4, if_pos hc0] at hG
  have v := (T8 s.first).1 hc0
  rw [hc0] at sc
  clear hc0
  by_cases h3 : 3 < s.steps.length
  ·have h3i : (s.steps.length : Int) > 3 := by omega
   rw [if_pos h3] at hG
   subst hG
   refine y3 func107 rfl (fun E hE => ?_); simp only [go_sem, ntmps107]
   repeat' (first | (show z3 ..; first | (refine Qr rfl ?_; try intro _ hK; try simp only [go_sem, *]) | (refine Qi rfl rfl rfl rfl (fun hb _ hK => ?_) (fun hb => ?_) <;> (have hc := hb; try simp only [go_sem] at hc; simp only [go_sem, *]))) | (show Hold ..; first | refine Qh rfl ?_ | refine q6 rfl mixed (by kernel_rfl) ?_ | (refine z7 rfl ⟨_, rfl, fun hb => ?_, fun hb => ?_⟩ <;> (have hc := hb; try simp only [go_sem] at hc)) | refine z8 rfl ?_) | (refine Qb ?_ ?_; focus kernel_rfl) | (show q7 ..; first | (refine q8 (sc) ?_ ?_; (focus (simp only [go_sem, *]; done)); simp only [go_sem, *])) | ((with_reducible refine And.intro ?_ ?_); focus omega) | (refine z6 hK ?_; clear hK; simp only [go_sem, *]) | (simp only [z5, z4, go_sem, *]))
   all_goals try contradiction
   all_goals (refine ⟨[_], [], [], ⟨rfl, trivial⟩, ?_⟩; simp only [go_sem, *])
  ·have h3i : ¬ (s.steps.length : Int) > 3 := by omega
   rw [if_neg h3] at hG
   refine y3 func107 rfl (fun E hE => ?_); simp only [go_sem, ntmps107]
   repeat' (first | (show z3 ..; first | (refine Qr rfl ?_; try intro _ hK; try simp only [go_sem, *]) | (refine Qi rfl rfl rfl rfl (fun hb _ hK => ?_) (fun hb => ?_) <;> (have hc := hb; try simp only [go_sem] at hc; simp only [go_sem, *]))) | (show Hold ..; first | refine Qh rfl ?_ | refine q6 rfl mixed (by kernel_rfl) ?_ | (refine z7 rfl ⟨_, rfl, fun hb => ?_, fun hb => ?_⟩ <;> (have hc := hb; try simp only [go_sem] at hc)) | refine z8 rfl ?_) | (refine Qb ?_ ?_; focus kernel_rfl) | (show q7 ..; first | (refine q8 (sc) ?_ ?_; (focus (simp only [go_sem, *]; done)); simp only [go_sem, *])) | ((with_reducible refine And.intro ?_ ?_); focus omega) | (refine z6 hK ?_; clear hK; simp only [go_sem, *]) | (simp only [z5, z4, go_sem, *]))
   all_goals try contradiction
   refine y8 rfl (fun zn zN zenv zAs => ∃ (i : Nat), zn = (s.steps.length) - i ∧ i ≤ (s.steps.length) ∧ (W3 s (s.steps.drop i) = G) ∧ zN = 96 ∧ zenv = [(4, iV i), (1, .ptr 0 0)] ∧ zAs = [.box [.list (s.first.map y6), .list (s.steps.map Z8), .list (s.facts.map Fact.enc)]]) (s.steps.length) ⟨[some 0], [], _, _, _, (by (simp only [Weak, go_sem, List.map_append, List.map_set, *] <;> (try simp (disch := omega) only [q9]) <;> (try simp) <;> (try omega))), 0, (by simp), (by simp), (by exact hG), rfl, rfl, rfl⟩ ?_; rintro _ _ _ _ ⟨i, rfl, hi, hP, rfl, rfl, rfl⟩
   clear hG
   by_cases hi2 : i < s.steps.length
   ·have hi3 : (i : Int) < s.steps.length := by omega
    unfold W3 at hP
    rw [zHn hi2] at hP
    have hwi := hwl _ (w6 hi2)
    generalize hw : s.steps.getD i default = w at *
    by_cases hw0 : w.length = 0
    ·have hw0i : (w.length : Int) = 0 := by omega
     rw [if_pos hw0, if_neg (by decide)] at hP
     subst hP
     repeat' (first | (show z3 ..; first | (refine Qr rfl ?_; try intro _ hK; try simp only [go_sem, *]) | (refine Qi rfl rfl rfl rfl (fun hb _ hK => ?_) (fun hb => ?_) <;> (have hc := hb; try simp only [go_sem] at hc; simp only [go_sem, *]))) | (show Hold ..; first | refine Qh rfl ?_ | refine q6 rfl mixed (by kernel_rfl) ?_ | (refine z7 rfl ⟨_, rfl, fun hb => ?_, fun hb => ?_⟩ <;> (have hc := hb; try simp only [go_sem] at hc)) | refine z8 rfl ?_) | (refine Qb ?_ ?_; focus kernel_rfl) | ((with_reducible refine And.intro ?_ ?_); focus omega) | (refine z6 hK ?_; clear hK; simp only [go_sem, *]) | (simp only [z5, z4, go_sem, *]))
     all_goals try contradiction
     (refine ⟨[_], [], [], ⟨rfl, trivial⟩, ?_⟩; simp only [go_sem, *])
    rw [if_neg hw0] at hP
    have hw0i : ¬ (w.length : Int) = 0 := by omega
    by_cases hw3 : 3 < w.length
    ·have hw3i : (w.length : Int) > 3 := by omega
     rw [if_pos hw3, if_neg (by decide)] at hP
     subst hP
     repeat' (first | (show z3 ..; first | (refine Qr rfl ?_; try intro _ hK; try simp only [go_sem, *]) | (refine Qi rfl rfl rfl rfl (fun hb _ hK => ?_) (fun hb => ?_) <;> (have hc := hb; try simp only [go_sem] at hc; simp only [go_sem, *]))) | (show Hold ..; first | refine Qh rfl ?_ | refine q6 rfl mixed (by kernel_rfl) ?_ | (refine z7 rfl ⟨_, rfl, fun hb => ?_, fun hb => ?_⟩ <;> (have hc := hb; try simp only [go_sem] at hc)) | refine z8 rfl ?_) | (refine Qb ?_ ?_; focus kernel_rfl) | ((with_reducible refine And.intro ?_ ?_); focus omega) | (refine z6 hK ?_; clear hK; simp only [go_sem, *]) | (simp only [z5, z4, go_sem, *]))
     all_goals try contradiction
     (refine ⟨[_], [], [], ⟨rfl, trivial⟩, ?_⟩; simp only [go_sem, *])
    rw [if_neg hw3] at hP
    have hw3i : ¬ (w.length : Int) > 3 := by omega
    have hP0 : (if j1 (w.drop 0) = 0 then W3 s (s.steps.drop (i + 1)) else 8) = G := by
     rw [← hP, List.drop_zero]
     unfold W3
     split <;> rfl
    clear hP
    repeat' (first | (show z3 ..; first | (refine Qr rfl ?_; try intro _ hK; try simp only [go_sem, *]) | (refine Qi rfl rfl rfl rfl (fun hb _ hK => ?_) (fun hb => ?_) <;> (have hc := hb; try simp only [go_sem] at hc; simp only [go_sem, *]))) | (show Hold ..; first | refine Qh rfl ?_ | refine q6 rfl mixed (by kernel_rfl) ?_ | (refine z7 rfl ⟨_, rfl, fun hb => ?_, fun hb => ?_⟩ <;> (have hc := hb; try simp only [go_sem] at hc)) | refine z8 rfl ?_) | (refine Qb ?_ ?_; focus kernel_rfl) | ((with_reducible refine And.intro ?_ ?_); focus omega) | (refine z6 hK ?_; clear hK; simp only [go_sem, *]) | (simp only [z5, z4, go_sem, *]))
    all_goals try contradiction
    refine y8 rfl (fun zn zN zenv zAs => ∃ (j : Nat), zn = (w.length) - j ∧ j ≤ (w.length) ∧ ((if j1 (w.drop j) = 0 then W3 s (s.steps.drop (i + 1)) else 8) = G) ∧ zN = 96 ∧ zenv = [(6, iV j), (5, .list (w.map Change.enc)), (4, iV i), (1, .ptr 0 0)] ∧ zAs = [.box [.list (s.first.map y6), .list (s.steps.map Z8), .list (s.facts.map Fact.enc)]]) (w.length) ⟨[some 0], [], _, _, _, (by (simp only [Weak, go_sem, List.map_append, List.map_set, *] <;> (try simp (disch := omega) only [q9]) <;> (try simp) <;> (try omega))), 0, (by simp), (by simp), (by exact hP0), rfl, rfl, rfl⟩ ?_; rintro _ _ _ _ ⟨j, rfl, hj, hQ, rfl, rfl, rfl⟩
    by_cases hj : j < w.length
    ·have hj3 : (j : Int) < w.length := by omega
     rw [zH8 hj] at hQ
     have sb := u2 (w.getD j default).kind 1 7
     by_cases hbt : zLL (w.getD j default).kind 1 7 = true
     ·rw [if_pos hbt] at hQ
      rw [hbt] at sb
      repeat' (first | (show z3 ..; first | (refine Qr rfl ?_; try intro _ hK; try simp only [go_sem, *]) | (refine Qi rfl rfl rfl rfl (fun hb _ hK => ?_) (fun hb => ?_) <;> (have hc := hb; try simp only [go_sem] at hc; simp only [go_sem, *]))) | (show Hold ..; first | refine Qh rfl ?_ | refine q6 rfl mixed (by kernel_rfl) ?_ | (refine z7 rfl ⟨_, rfl, fun hb => ?_, fun hb => ?_⟩ <;> (have hc := hb; try simp only [go_sem] at hc)) | refine z8 rfl ?_) | (refine Qb ?_ ?_; focus kernel_rfl) | (show q7 ..; first | (refine q8 (sb) ?_ ?_; (focus (simp only [go_sem, *]; done)); simp only [go_sem, *])) | ((with_reducible refine And.intro ?_ ?_); focus omega) | (refine z6 hK ?_; clear hK; simp only [go_sem, *]) | (simp only [z5, z4, go_sem, *]))
      all_goals try contradiction
      refine ⟨_, (by omega), [some 0], [], _, _, _, (by (simp only [Weak, go_sem, List.map_append, List.map_set, *] <;> (try simp (disch := omega) only [q9]) <;> (try simp) <;> (try omega))), j + 1, rfl, (by omega), (by exact hQ), rfl, rfl, rfl⟩
     ·rw [if_neg hbt, if_neg (by decide)] at hQ
      rw [Bool.not_eq_true] at hbt
      rw [hbt] at sb
      subst hQ
      repeat' (first | (show z3 ..; first | (refine Qr rfl ?_; try intro _ hK; try simp only [go_sem, *]) | (refine Qi rfl rfl rfl rfl (fun hb _ hK => ?_) (fun hb => ?_) <;> (have hc := hb; try simp only [go_sem] at hc; simp only [go_sem, *]))) | (show Hold ..; first | refine Qh rfl ?_ | refine q6 rfl mixed (by kernel_rfl) ?_ | (refine z7 rfl ⟨_, rfl, fun hb => ?_, fun hb => ?_⟩ <;> (have hc := hb; try simp only [go_sem] at hc)) | refine z8 rfl ?_) | (refine Qb ?_ ?_; focus kernel_rfl) | (show q7 ..; first | (refine q8 (sb) ?_ ?_; (focus (simp only [go_sem, *]; done)); simp only [go_sem, *])) | ((with_reducible refine And.intro ?_ ?_); focus omega) | (refine z6 hK ?_; clear hK; simp only [go_sem, *]) | (simp only [z5, z4, go_sem, *]))
      all_goals try contradiction
      (refine ⟨[_], [], [], ⟨rfl, trivial⟩, ?_⟩; simp only [go_sem, *])
    ·have hj3 : ¬ (j : Int) < w.length := by omega
     rw [v4 (by omega), j1, if_pos rfl] at hQ
     repeat' (first | (show z3 ..; first | (refine Qr rfl ?_; try intro _ hK; try simp only [go_sem, *]) | (refine Qi rfl rfl rfl rfl (fun hb _ hK => ?_) (fun hb => ?_) <;> (have hc := hb; try simp only [go_sem] at hc; simp only [go_sem, *]))) | (show Hold ..; first | refine Qh rfl ?_ | refine q6 rfl mixed (by kernel_rfl) ?_ | (refine z7 rfl ⟨_, rfl, fun hb => ?_, fun hb => ?_⟩ <;> (have hc := hb; try simp only [go_sem] at hc)) | refine z8 rfl ?_) | (refine Qb ?_ ?_; focus kernel_rfl) | ((with_reducible refine And.intro ?_ ?_); focus omega) | (refine z6 hK ?_; clear hK; simp only [go_sem, *]) | (simp only [z5, z4, go_sem, *]))
     all_goals try contradiction
     refine ⟨_, (by omega), [some 0], [], _, _, _, (by (simp only [Weak, go_sem, List.map_append, List.map_set, *] <;> (try simp (disch := omega) only [q9]) <;> (try simp) <;> (try omega))), i + 1, rfl, (by omega), (by exact hQ), rfl, rfl, rfl⟩
   ·rw [v4 (by omega), W3, Z6, if_pos rfl] at hP
    by_cases hf4 : 4 < s.facts.length
    ·have hf4i : (s.facts.length : Int) > 4 := by omega
     rw [J2, if_pos hf4] at hP
     subst hP
     repeat' (first | (show z3 ..; first | (refine Qr rfl ?_; try intro _ hK; try simp only [go_sem, *]) | (refine Qi rfl rfl rfl rfl (fun hb _ hK => ?_) (fun hb => ?_) <;> (have hc := hb; try simp only [go_sem] at hc; simp only [go_sem, *]))) | (show Hold ..; first | refine Qh rfl ?_ | refine q6 rfl mixed (by kernel_rfl) ?_ | (refine z7 rfl ⟨_, rfl, fun hb => ?_, fun hb => ?_⟩ <;> (have hc := hb; try simp only [go_sem] at hc)) | refine z8 rfl ?_) | (refine Qb ?_ ?_; focus kernel_rfl) | ((with_reducible refine And.intro ?_ ?_); focus omega) | (refine z6 hK ?_; clear hK; simp only [go_sem, *]) | (simp only [z5, z4, go_sem, *]))
     all_goals try contradiction
     (refine ⟨[_], [], [], ⟨rfl, trivial⟩, ?_⟩; simp only [go_sem, *])
    have hf4i : ¬ (s.facts.length : Int) > 4 := by omega
    rw [J2, if_neg hf4] at hP
    have hi3 : ¬ (i : Int) < s.steps.length := by omega
    repeat' (first | (show z3 ..; first | (refine Qr rfl ?_; try intro _ hK; try simp only [go_sem, *]) | (refine Qi rfl rfl rfl rfl (fun hb _ hK => ?_) (fun hb => ?_) <;> (have hc := hb; try simp only [go_sem] at hc; simp only [go_sem, *]))) | (show Hold ..; first | refine Qh rfl ?_ | refine q6 rfl mixed (by kernel_rfl) ?_ | (refine z7 rfl ⟨_, rfl, fun hb => ?_, fun hb => ?_⟩ <;> (have hc := hb; try simp only [go_sem] at hc)) | refine z8 rfl ?_) | (refine Qb ?_ ?_; focus kernel_rfl) | ((with_reducible refine And.intro ?_ ?_); focus omega) | (refine z6 hK ?_; clear hK; simp only [go_sem, *]) | (simp only [z5, z4, go_sem, *]))
    all_goals try contradiction
    clear hi2 hi hi3
    refine y8 rfl (fun zn zN zenv zAs => ∃ (k : Nat), zn = (s.facts.length) - k ∧ k ≤ (s.facts.length) ∧ (b9 s.first (s.facts.drop k) = G) ∧ zN = 96 ∧ zenv = [(7, iV k), (1, .ptr 0 0)] ∧ zAs = [.box [.list (s.first.map y6), .list (s.steps.map Z8), .list (s.facts.map Fact.enc)]]) (s.facts.length) ⟨[some 0], [], _, _, _, (by (simp only [Weak, go_sem, List.map_append, List.map_set, *] <;> (try simp (disch := omega) only [q9]) <;> (try simp) <;> (try omega))), 0, (by simp), (by simp), (by exact hP), rfl, rfl, rfl⟩ ?_; rintro _ _ _ _ ⟨k, rfl, hk, hQ, rfl, rfl, rfl⟩
    by_cases hk : k < s.facts.length
    ·have hk3 : (k : Int) < s.facts.length := by omega
     rw [zDy hk] at hQ
     have hcn := v.count
     have hln := v.len
     have hwp : IntKind.i64.wrap ((s.first.length : Int) - 1) = (s.first.length : Int) - 1 := wrap_i64 (by omega) (by omega)
     have s1 := zOZ s.first (s.facts.getD k default).src (by omega) (fun l hl => by have := (v.rows l hl).len; omega)
     have s2 := u2 (s.facts.getD k default).dst.street 0 ((s.first.length : Int) - 1)
     have s3 := zGz (s.facts.getD k default).dst.plate
     by_cases q1 : (s.facts.getD k default).src ∈ y4 s.first
     ·by_cases q2 : zLL (s.facts.getD k default).dst.street 0 ((s.first.length : Int) - 1) = true
      ·rw [if_pos ⟨q1, q2⟩] at hQ
       have q1' : decide ((s.facts.getD k default).src ∈ y4 s.first) = true := by simpa using q1
       rw [q1'] at s1
       rw [q2] at s2
       by_cases q3 : (s.facts.getD k default).dst.plate.ok = true
       ·rw [if_pos q3] at hQ
        rw [q3] at s3
        clear q1 q1' q2 q3
        repeat' (first | (show z3 ..; first | (refine Qr rfl ?_; try intro _ hK; try simp only [go_sem, *]) | (refine Qi rfl rfl rfl rfl (fun hb _ hK => ?_) (fun hb => ?_) <;> (have hc := hb; try simp only [go_sem] at hc; simp only [go_sem, *]))) | (show Hold ..; first | refine Qh rfl ?_ | refine q6 rfl mixed (by kernel_rfl) ?_ | (refine z7 rfl ⟨_, rfl, fun hb => ?_, fun hb => ?_⟩ <;> (have hc := hb; try simp only [go_sem] at hc)) | refine z8 rfl ?_) | (refine Qb ?_ ?_; focus kernel_rfl) | (show q7 ..; first | ((first | refine q8 (s1) ?_ ?_ | refine q8 (s2) ?_ ?_ | refine q8 (s3) ?_ ?_); (focus (simp only [go_sem, *]; done)); simp only [go_sem, *])) | ((with_reducible refine And.intro ?_ ?_); focus omega) | (refine z6 hK ?_; clear hK; simp only [go_sem, *]) | (simp only [z5, z4, go_sem, *]))
        all_goals try contradiction
        refine ⟨_, (by omega), [some 0], [], _, _, _, (by (simp only [Weak, go_sem, List.map_append, List.map_set, *] <;> (try simp (disch := omega) only [q9]) <;> (try simp) <;> (try omega))), k + 1, rfl, (by omega), (by exact hQ), rfl, rfl, rfl⟩
       ·rw [if_neg q3] at hQ
        rw [Bool.not_eq_true] at q3
        rw [q3] at s3
        clear q1 q1' q2 q3
        subst hQ
        repeat' (first | (show z3 ..; first | (refine Qr rfl ?_; try intro _ hK; try simp only [go_sem, *]) | (refine Qi rfl rfl rfl rfl (fun hb _ hK => ?_) (fun hb => ?_) <;> (have hc := hb; try simp only [go_sem] at hc; simp only [go_sem, *]))) | (show Hold ..; first | refine Qh rfl ?_ | refine q6 rfl mixed (by kernel_rfl) ?_ | (refine z7 rfl ⟨_, rfl, fun hb => ?_, fun hb => ?_⟩ <;> (have hc := hb; try simp only [go_sem] at hc)) | refine z8 rfl ?_) | (refine Qb ?_ ?_; focus kernel_rfl) | (show q7 ..; first | ((first | refine q8 (s1) ?_ ?_ | refine q8 (s2) ?_ ?_ | refine q8 (s3) ?_ ?_); (focus (simp only [go_sem, *]; done)); simp only [go_sem, *])) | ((with_reducible refine And.intro ?_ ?_); focus omega) | (refine z6 hK ?_; clear hK; simp only [go_sem, *]) | (simp only [z5, z4, go_sem, *]))
        all_goals try contradiction
        (refine ⟨[_], [], [], ⟨rfl, trivial⟩, ?_⟩; simp only [go_sem, *])
      ·rw [if_neg (fun h => q2 h.2)] at hQ
       have q1' : decide ((s.facts.getD k default).src ∈ y4 s.first) = true := by simpa using q1
       rw [q1'] at s1
       rw [Bool.not_eq_true] at q2
       rw [q2] at s2
       clear q1 q1' q2
       subst hQ
       repeat' (first | (show z3 ..; first | (refine Qr rfl ?_; try intro _ hK; try simp only [go_sem, *]) | (refine Qi rfl rfl rfl rfl (fun hb _ hK => ?_) (fun hb => ?_) <;> (have hc := hb; try simp only [go_sem] at hc; simp only [go_sem, *]))) | (show Hold ..; first | refine Qh rfl ?_ | refine q6 rfl mixed (by kernel_rfl) ?_ | (refine z7 rfl ⟨_, rfl, fun hb => ?_, fun hb => ?_⟩ <;> (have hc := hb; try simp only [go_sem] at hc)) | refine z8 rfl ?_) | (refine Qb ?_ ?_; focus kernel_rfl) | (show q7 ..; first | ((first | refine q8 (s1) ?_ ?_ | refine q8 (s2) ?_ ?_ | refine q8 (s3) ?_ ?_); (focus (simp only [go_sem, *]; done)); simp only [go_sem, *])) | ((with_reducible refine And.intro ?_ ?_); focus omega) | (refine z6 hK ?_; clear hK; simp only [go_sem, *]) | (simp only [z5, z4, go_sem, *]))
       all_goals try contradiction
       (refine ⟨[_], [], [], ⟨rfl, trivial⟩, ?_⟩; simp only [go_sem, *])
     ·rw [if_neg (fun h => q1 h.1)] at hQ
      have q1' : decide ((s.facts.getD k default).src ∈ y4 s.first) = false := by simpa using q1
      rw [q1'] at s1
      clear q1 q1'
      subst hQ
      repeat' (first | (show z3 ..; first | (refine Qr rfl ?_; try intro _ hK; try simp only [go_sem, *]) | (refine Qi rfl rfl rfl rfl (fun hb _ hK => ?_) (fun hb => ?_) <;> (have hc := hb; try simp only [go_sem] at hc; simp only [go_sem, *]))) | (show Hold ..; first | refine Qh rfl ?_ | refine q6 rfl mixed (by kernel_rfl) ?_ | (refine z7 rfl ⟨_, rfl, fun hb => ?_, fun hb => ?_⟩ <;> (have hc := hb; try simp only [go_sem] at hc)) | refine z8 rfl ?_) | (refine Qb ?_ ?_; focus kernel_rfl) | (show q7 ..; first | ((first | refine q8 (s1) ?_ ?_ | refine q8 (s2) ?_ ?_ | refine q8 (s3) ?_ ?_); (focus (simp only [go_sem, *]; done)); simp only [go_sem, *])) | ((with_reducible refine And.intro ?_ ?_); focus omega) | (refine z6 hK ?_; clear hK; simp only [go_sem, *]) | (simp only [z5, z4, go_sem, *]))
      all_goals try contradiction
      (refine ⟨[_], [], [], ⟨rfl, trivial⟩, ?_⟩; simp only [go_sem, *])
    ·rw [v4 (by omega), b9] at hQ
     subst hQ
     have hk3 : ¬ (k : Int) < s.facts.length := by omega
     repeat' (first | (show z3 ..; first | (refine Qr rfl ?_; try intro _ hK; try simp only [go_sem, *]) | (refine Qi rfl rfl rfl rfl (fun hb _ hK => ?_) (fun hb => ?_) <;> (have hc := hb; try simp only [go_sem] at hc; simp only [go_sem, *]))) | (show Hold ..; first | refine Qh rfl ?_ | refine q6 rfl mixed (by kernel_rfl) ?_ | (refine z7 rfl ⟨_, rfl, fun hb => ?_, fun hb => ?_⟩ <;> (have hc := hb; try simp only [go_sem] at hc)) | refine z8 rfl ?_) | (refine Qb ?_ ?_; focus kernel_rfl) | ((with_reducible refine And.intro ?_ ?_); focus omega) | (refine z6 hK ?_; clear hK; simp only [go_sem, *]) | (simp only [z5, z4, go_sem, *]))
     all_goals try contradiction
     (refine ⟨[_], [], [], ⟨rfl, trivial⟩, ?_⟩; simp only [go_sem, *])
 ·have e : (check s.first == 0) = false := by simpa using hc0
  have e2 : (check s.first != 0) = true := by simpa using hc0
  rw [r4, if_neg hc0] at hG
  subst hG
  clear hc0
  generalize check s.first = k at *
  refine y3 func107 rfl (fun E hE => ?_); simp only [go_sem, ntmps107]
  repeat' (first | (show z3 ..; first | (refine Qr rfl ?_; try intro _ hK; try simp only [go_sem, *]) | (refine Qi rfl rfl rfl rfl (fun hb _ hK => ?_) (fun hb => ?_) <;> (have hc := hb; try simp only [go_sem] at hc; simp only [go_sem, *]))) | (show Hold ..; first | refine Qh rfl ?_ | refine q6 rfl mixed (by kernel_rfl) ?_ | (refine z7 rfl ⟨_, rfl, fun hb => ?_, fun hb => ?_⟩ <;> (have hc := hb; try simp only [go_sem] at hc)) | refine z8 rfl ?_) | (refine Qb ?_ ?_; focus kernel_rfl) | (show q7 ..; first | (refine q8 (sc) ?_ ?_; (focus (simp only [go_sem, *]; done)); simp only [go_sem, *])) | ((with_reducible refine And.intro ?_ ?_); focus omega) | (refine z6 hK ?_; clear hK; simp only [go_sem, *]) | (simp only [z5, z4, go_sem, *]))
  all_goals try contradiction
  all_goals (refine ⟨[_], [], [], ⟨rfl, trivial⟩, ?_⟩; simp only [go_sem, *])
end Go.Abs

namespace Go.Abs
open Go Go.Proofs Tryz
attribute [local irreducible] z3 Hold q7
@[reducible] def zMd (s : Story) : AObj := .box [.list (s.first.map y6), .list (s.steps.map Z8), .list (s.facts.map Fact.enc)]
@[reducible] def zPA (hs : List House) (f : House → List House) : List AV := hs.map fun h => r8 (f h)
@[go_sem, simp] theorem zOn (H : Nat → AObj) (m : List (Option Nat)) (ex : List Nat) (l : List House) (f : House → List House) : XpL H m ex (List.map (fun h => AV.list (List.map House.enc (f h))) l) (List.map (fun h => AV.list (List.map House.enc (f h))) l) ↔ True := ⟨fun _ => trivial, fun _ => zAi (fun x => by simp only [XpF]) _⟩
@[go_sem, simp] theorem zOv {α : Type} (H : Nat → AObj) (m : List (Option Nat)) (ex : List Nat) (f : α → List AV) (l : List α) (i : Nat) (x y : AV) : XpL H m ex (List.take i (List.map (fun t => AV.list (f t)) l) ++ [x]) (List.take i (List.map (fun t => AV.list (f t)) l) ++ [y]) ↔ XpF H m ex x y := by
 rw [O5 _ (fun z hz => by
  obtain ⟨t, _, rfl⟩ := List.mem_map.1 (List.mem_of_mem_take hz)
  simp only [XpF])]
@[go_sem, simp] theorem zOs {α : Type} (H : Nat → AObj) (m : List (Option Nat)) (ex : List Nat) (f : α → List AV) (l : List α) (x y : AV) : XpL H m ex (List.map (fun t => AV.list (f t)) l ++ [x]) (List.map (fun t => AV.list (f t)) l ++ [y]) ↔ XpF H m ex x y := by
 rw [O5 _ (fun z hz => by
  obtain ⟨t, _, rfl⟩ := List.mem_map.1 hz
  simp only [XpF])]
def zPF (h : House) : List House := [h]
theorem zNw {s : Story} {n : Nat} {t : Truth} (o : TOk s n t) (c : Change) (i : Nat) {h : House} (hh : h ∈ y4 s.first) : w8 (zO4 (l9 t.fin c) (t.now h)) = (j7 t c i).now h := by
 rw [zNx t.fin c (t.now h) (o.mem h hh)]; rfl
theorem zNd (s : Story) (o : Told s) : ∀ (n : Nat) (t : Truth), TOk s n t → zLJ prog 143 [s.enc, t.encR s.first] [] (.list ((zMY s n t).map (Truth.encR s.first))) []
 | 0, t, k => by
  have hq : ((t.ways.length : Int) == (s.steps.length : Int)) = true := by have := k.steps; simp; omega
  rw [zMY]
  clear o k
  refine y3 func143 rfl (fun E hE => ?_); simp only [go_sem, ntmps143]
  repeat' (first | (show z3 ..; first | (refine Qr rfl ?_; try intro _ hK; try simp only [go_sem, *])) | (show Hold ..; first | refine Qh rfl ?_ | refine q6 rfl mixed (by kernel_rfl) ?_ | (refine z7 rfl ⟨_, rfl, fun hb => ?_, fun hb => ?_⟩ <;> (have hc := hb; try simp only [go_sem] at hc)) | refine z8 rfl ?_) | (refine Qb ?_ ?_; focus kernel_rfl) | ((with_reducible refine And.intro ?_ ?_); focus omega) | (refine z6 hK ?_; clear hK; simp only [go_sem, *]) | (simp only [z5, z4, go_sem, *]))
  all_goals try contradiction
  refine ⟨[.own 2 3 0 1], [], [2], ⟨rfl, trivial⟩, ?_⟩
  simp only [go_sem, *]
 | n + 1, t, k => by
  have IH := fun t' k' => zNd s o n t' k'
  have hst := k.steps
  have h3 := o.steps
  have hq : ((t.ways.length : Int) == (s.steps.length : Int)) = false := by simp; omega
  have hk : t.ways.length < s.steps.length := by omega
  have hv := k.val
  have hv3 := hv.len
  have hct := o.first.count
  have hRl : (zMY s (n + 1) t).length ≤ 27 := by
   have h1 := zM4 (fun w hw => (o.ways w hw).2.1) (n + 1) t
   have h2 : 3 ^ (n + 1) ≤ 3 ^ 3 := Nat.pow_le_pow_right (by omega) (by omega)
   omega
  have hR0 : ([] : List Truth) ++ zMa s n t 0 = zMY s (n + 1) t := by rw [zN9]; rfl
  have hWl : (s.steps.getD t.ways.length default).length ≤ 3 := (o.ways _ (w6 hk)).2.1
  have hyes : ∀ i, i < (s.steps.getD t.ways.length default).length → can t.fin ((s.steps.getD t.ways.length default).getD i default) = 0 → zMa s n t i = zMY s n (j7 t ((s.steps.getD t.ways.length default).getD i default) i) ++ zMa s n t (i + 1) := fun i hi hc => zN8 hi hc
  have hno : ∀ i, i < (s.steps.getD t.ways.length default).length → can t.fin ((s.steps.getD t.ways.length default).getD i default) ≠ 0 → zMa s n t i = zMa s n t (i + 1) := fun i hi hc => zN7 hi hc
  have hen : ∀ i, (s.steps.getD t.ways.length default).length ≤ i → zMa s n t i = [] := fun i hi => zN6 hi
  generalize hWd : s.steps.getD t.ways.length default = W at *
  generalize zMY s (n + 1) t = R at *
  refine y3 func143 rfl (fun E hE => ?_); simp only [go_sem, ntmps143]
  repeat' (first | (show z3 ..; first | (refine Qr rfl ?_; try intro _ hK; try simp only [go_sem, *])) | (show Hold ..; first | refine Qh rfl ?_ | refine q6 rfl mixed (by kernel_rfl) ?_ | (refine z7 rfl ⟨_, rfl, fun hb => ?_, fun hb => ?_⟩ <;> (have hc := hb; try simp only [go_sem] at hc)) | refine z8 rfl ?_) | (refine Qb ?_ ?_; focus kernel_rfl) | ((with_reducible refine And.intro ?_ ?_); focus omega) | (refine z6 hK ?_; clear hK; simp only [go_sem, *]) | (simp only [z5, z4, go_sem, *]))
  all_goals try contradiction
  clear hWd hq
  refine y8 rfl (fun zn zN zenv zAs => ∃ (i : Nat) (acc : List Truth), zn = (W.length) - i ∧ i ≤ (W.length) ∧ (acc ++ zMa s n t i = R) ∧ zN = 86 ∧ zenv = [(7, iV i), (6, .list (W.map Change.enc)), (5, .own 2 3 0 acc.length), (2, .ptr 0 0), (3, .ptr 1 0)] ∧ zAs = [zMd s, .box [.list (t.ways.map iV), .list (t.fin.map y6), .list (zPA (y4 s.first) t.now)], .row 3 (acc.map (Truth.encR s.first))]) (W.length) ⟨[some 0, some 1, none], [], _, _, _, (by (simp only [Weak, go_sem, List.map_append, List.map_set, *] <;> (try simp (disch := omega) only [q9]) <;> (try simp) <;> (try omega))), 0, [], (by simp), (by simp), (by exact hR0), rfl, rfl, rfl⟩ ?_; rintro _ _ _ _ ⟨i, acc, rfl, hi, hP, rfl, rfl, rfl⟩
  clear hR0
  have hql := congrArg List.length hP
  simp only [List.length_append] at hql
  by_cases hi : i < W.length
  ·have hi3 : (i : Int) < W.length := by omega
   have sC := zKz t.fin (W.getD i default) hv
   by_cases e : can t.fin (W.getD i default) = 0
   ·have f := Fit.of_can e
    have sM := zK7 t.fin (W.getD i default) hv f
    rw [hyes i hi e] at hP hql
    simp only [List.length_append] at hql
    rw [e] at sC
    have kn := k.next e i
    have IH1 := IH _ kn
    have hcar : ∀ h, h ∈ y4 s.first → zLJ prog 167 [y5 t.fin, (W.getD i default).enc, r8 (t.now h)] [] (r8 ((j7 t (W.getD i default) i).now h)) [] := fun h hh => by
     have := zOU t.fin (W.getD i default) (t.now h) hv f (by have := k.small h3 hh; omega)
     rwa [zNw k (W.getD i default) i hh] at this
    have hf : (j7 t (W.getD i default) i).fin = u4 t.fin (W.getD i default) := rfl
    have hw : (j7 t (W.getD i default) i).ways = t.ways ++ [(i : Int)] := rfl
    have hwl : t.ways.length ≤ 3 := by omega
    rw [← hf] at sM
    clear hyes hno hen IH e f kn hf
    generalize j7 t (W.getD i default) i = t2 at *
    generalize zMY s n t2 = B at *
    generalize hHd : y4 s.first = H at *
    have ht : ∀ a : AV, List.take (t.ways.length + 1) (List.map iV t.ways ++ [a]) = List.map iV t.ways ++ [a] := fun a => List.take_of_length_le (by simp)
    repeat' (first | (show z3 ..; first | (refine Qr rfl ?_; try intro _ hK; try simp only [go_sem, *])) | (show Hold ..; first | refine Qh rfl ?_ | refine q6 rfl mixed (by kernel_rfl) ?_ | (refine z7 rfl ⟨_, rfl, fun hb => ?_, fun hb => ?_⟩ <;> (have hc := hb; try simp only [go_sem] at hc)) | refine z8 rfl ?_) | (with_reducible (show (∀ _ : AV, _ → _) ∧ _); refine And.intro ?_ ?_; (focus (intro y hy; first | (obtain ⟨z, _, rfl⟩ := List.mem_map.1 (hy); simp [go_sem]; done) | (obtain ⟨z, _, rfl⟩ := List.mem_map.1 (List.mem_of_mem_take hy); simp [go_sem]; done) | (obtain ⟨z, _, rfl⟩ := List.mem_map.1 (List.mem_of_mem_drop hy); simp [go_sem]; done) | (obtain ⟨z, _, rfl⟩ := List.mem_map.1 (List.mem_of_mem_drop (List.mem_of_mem_take hy)); simp [go_sem]; done)))) | (refine Qb ?_ ?_; focus kernel_rfl) | (show q7 ..; first | ((first | refine q8 (sC) ?_ ?_ | refine q8 (sM) ?_ ?_); (focus (simp only [go_sem, *]; done)); simp only [go_sem, *])) | ((with_reducible refine And.intro ?_ ?_); focus omega) | (refine z6 hK ?_; clear hK; simp only [go_sem, *]) | (simp only [z5, z4, go_sem, *]))
    all_goals try contradiction
    clear sC sM
    refine y8 rfl (fun zn zN zenv zAs => ∃ (j : Nat), zn = (H.length) - j ∧ j ≤ (H.length) ∧ (NoP j) ∧ zN = 86 ∧ zenv = [(9, iV j), (8, .ptr 3 0), (7, iV i), (6, .list (W.map Change.enc)), (5, .own 2 3 0 acc.length), (2, .ptr 0 0), (3, .ptr 1 0)] ∧ zAs = [zMd s, .box [.list (t.ways.map iV), .list (t.fin.map y6), .list (zPA H t.now)], .row 3 (acc.map (Truth.encR s.first)), .box [.list (t2.ways.map iV), .list (t2.fin.map y6), .own 4 1 0 j], .box (zPA (H.take j) t2.now)]) (H.length) ⟨[some 0, some 1, some 2, some 7, none], [6], _, _, _, (by (simp only [Weak, go_sem, List.map_append, List.map_set, *] <;> (try simp (disch := omega) only [q9]) <;> (try simp) <;> (try omega))), 0, (by simp), (by simp), (by trivial), rfl, rfl, rfl⟩ ?_; rintro _ _ _ _ ⟨j, rfl, hj, hJ, rfl, rfl, rfl⟩
    clear hw ht
    by_cases hj : j < H.length
    ·have hj3 : (j : Int) < H.length := by omega
     have sc := hcar _ (w6 hj)
     have e := j0 (l := H) (i := j) hj
     clear hcar
     repeat' (first | (show z3 ..; first | (refine Qr rfl ?_; try intro _ hK; try simp only [go_sem, *])) | (show Hold ..; first | refine Qh rfl ?_ | refine q6 rfl mixed (by kernel_rfl) ?_ | (refine z7 rfl ⟨_, rfl, fun hb => ?_, fun hb => ?_⟩ <;> (have hc := hb; try simp only [go_sem] at hc)) | refine z8 rfl ?_) | (with_reducible (show (∀ _ : AV, _ → _) ∧ _); refine And.intro ?_ ?_; (focus (intro y hy; first | (obtain ⟨z, _, rfl⟩ := List.mem_map.1 (hy); simp [go_sem]; done) | (obtain ⟨z, _, rfl⟩ := List.mem_map.1 (List.mem_of_mem_take hy); simp [go_sem]; done) | (obtain ⟨z, _, rfl⟩ := List.mem_map.1 (List.mem_of_mem_drop hy); simp [go_sem]; done) | (obtain ⟨z, _, rfl⟩ := List.mem_map.1 (List.mem_of_mem_drop (List.mem_of_mem_take hy)); simp [go_sem]; done)))) | (refine Qb ?_ ?_; focus kernel_rfl) | (show q7 ..; first | (refine q8 (sc) ?_ ?_; (focus (simp only [go_sem, *]; done)); simp only [go_sem, *])) | ((with_reducible refine And.intro ?_ ?_); focus omega) | (refine z6 hK ?_; clear hK; simp only [go_sem, *]) | (simp only [z5, z4, go_sem, *]))
     all_goals try contradiction
     refine ⟨_, (by omega), [some 0, some 1, some 2, some 3, some 6], [], _, _, _, (by (simp only [Weak, go_sem, List.map_append, List.map_set, *] <;> (try simp (disch := omega) only [q9]) <;> (try simp) <;> (try omega))), j + 1, rfl, (by omega), (by trivial), rfl, rfl, rfl⟩
    ·have hj3 : ¬ (j : Int) < H.length := by omega
     have e : H.take j = H := List.take_of_length_le (by omega)
     have e2 : j = H.length := by omega
     subst e2
     clear hcar
     refine J9 (N := 86) (env := [(9, iV H.length), (8, .ptr 3 0), (7, iV i), (6, .list (W.map Change.enc)), (5, .own 2 3 0 acc.length), (2, .ptr 0 0), (3, .ptr 1 0)]) (As := [zMd s, .box [.list (t.ways.map iV), .list (t.fin.map y6), .list (zPA H t.now)], .row 3 (acc.map (Truth.encR s.first)), .box [.list (t2.ways.map iV), .list (t2.fin.map y6), .list (zPA H t2.now)]]) [some 0, some 1, some 2, some 3] [4] (by (simp only [Weak, go_sem, List.map_append, List.map_set, *] <;> (try simp (disch := omega) only [q9]) <;> (try simp) <;> (try omega))) ?_
     simp only [Truth.encR, hHd] at IH1
     clear e
     repeat' (first | (show z3 ..; first | (refine Qr rfl ?_; try intro _ hK; try simp only [go_sem, *])) | (show Hold ..; first | refine Qh rfl ?_ | refine q6 rfl mixed (by kernel_rfl) ?_ | (refine z7 rfl ⟨_, rfl, fun hb => ?_, fun hb => ?_⟩ <;> (have hc := hb; try simp only [go_sem] at hc)) | refine z8 rfl ?_) | (with_reducible (show (∀ _ : AV, _ → _) ∧ _); refine And.intro ?_ ?_; (focus (intro y hy; first | (obtain ⟨z, _, rfl⟩ := List.mem_map.1 (hy); simp [go_sem]; done) | (obtain ⟨z, _, rfl⟩ := List.mem_map.1 (List.mem_of_mem_take hy); simp [go_sem]; done) | (obtain ⟨z, _, rfl⟩ := List.mem_map.1 (List.mem_of_mem_drop hy); simp [go_sem]; done) | (obtain ⟨z, _, rfl⟩ := List.mem_map.1 (List.mem_of_mem_drop (List.mem_of_mem_take hy)); simp [go_sem]; done)))) | (refine Qb ?_ ?_; focus kernel_rfl) | (show q7 ..; first | (refine q8 (IH1) ?_ ?_; (focus (simp only [go_sem, *]; done)); simp only [go_sem, *])) | ((with_reducible refine And.intro ?_ ?_); focus omega) | (refine z6 hK ?_; clear hK; simp only [go_sem, *]) | (simp only [z5, z4, go_sem, *]))
     all_goals try contradiction
     refine ⟨_, (by omega), [some 0, some 1, some 4], [], _, _, _, (by (simp only [Weak, go_sem, List.map_append, List.map_set, *] <;> (try simp (disch := omega) only [q9]) <;> (try simp) <;> (try omega))), i + 1, acc ++ B, rfl, (by omega), (by rw [← hP]; simp), rfl, rfl, rfl⟩
   ·rw [hno i hi e] at hP
    have e2 : (can t.fin (W.getD i default) != 0) = true := by simpa using e
    clear hyes hno hen IH e
    generalize can t.fin (W.getD i default) = er at *
    repeat' (first | (show z3 ..; first | (refine Qr rfl ?_; try intro _ hK; try simp only [go_sem, *])) | (show Hold ..; first | refine Qh rfl ?_ | refine q6 rfl mixed (by kernel_rfl) ?_ | (refine z7 rfl ⟨_, rfl, fun hb => ?_, fun hb => ?_⟩ <;> (have hc := hb; try simp only [go_sem] at hc)) | refine z8 rfl ?_) | (refine Qb ?_ ?_; focus kernel_rfl) | (show q7 ..; first | (refine q8 (sC) ?_ ?_; (focus (simp only [go_sem, *]; done)); simp only [go_sem, *])) | ((with_reducible refine And.intro ?_ ?_); focus omega) | (refine z6 hK ?_; clear hK; simp only [go_sem, *]) | (simp only [z5, z4, go_sem, *]))
    all_goals try contradiction
    refine ⟨_, (by omega), [some 0, some 1, some 2], [], _, _, _, (by (simp only [Weak, go_sem, List.map_append, List.map_set, *] <;> (try simp (disch := omega) only [q9]) <;> (try simp) <;> (try omega))), i + 1, acc, rfl, (by omega), (by exact hP), rfl, rfl, rfl⟩
  ·have hi3 : ¬ (i : Int) < W.length := by omega
   rw [hen i (by omega), List.append_nil] at hP
   subst hP
   clear hyes hno hen IH
   repeat' (first | (show z3 ..; first | (refine Qr rfl ?_; try intro _ hK; try simp only [go_sem, *])) | (show Hold ..; first | refine Qh rfl ?_ | refine q6 rfl mixed (by kernel_rfl) ?_ | (refine z7 rfl ⟨_, rfl, fun hb => ?_, fun hb => ?_⟩ <;> (have hc := hb; try simp only [go_sem] at hc)) | refine z8 rfl ?_) | (refine Qb ?_ ?_; focus kernel_rfl) | ((with_reducible refine And.intro ?_ ?_); focus omega) | (refine z6 hK ?_; clear hK; simp only [go_sem, *]) | (simp only [z5, z4, go_sem, *]))
   all_goals try contradiction
   refine ⟨[.own 2 3 0 acc.length], [], [2], ⟨rfl, trivial⟩, ?_⟩
   simp only [go_sem, *]
theorem zOS (s : Story) (t : Truth) (h : House) (v : Valid s.first) (hh : h ∈ y4 s.first) : zLJ prog 115 [s.enc, t.encR s.first, h.enc] [] (r8 (t.now h)) [] := by
 have hct := v.count
 have sO := zHU s.first (by have := v.len; omega) (fun l hl => by have := (v.rows l hl).len; omega) (by omega)
 generalize hHd : y4 s.first = H at *
 refine y3 func115 rfl (fun E hE => ?_); simp only [go_sem, ntmps115]
 repeat' (first | (show z3 ..; first | (refine Qr rfl ?_; try intro _ hK; try simp only [go_sem, *])) | (show Hold ..; first | refine Qh rfl ?_ | refine q6 rfl mixed (by kernel_rfl) ?_ | (refine z7 rfl ⟨_, rfl, fun hb => ?_, fun hb => ?_⟩ <;> (have hc := hb; try simp only [go_sem] at hc)) | refine z8 rfl ?_) | (refine Qb ?_ ?_; focus kernel_rfl) | (show q7 ..; first | (refine v5 (sO) ?_ ?_ ?_ ?_; (focus (simp only [go_sem, *]; done)); (focus (first | (simp; done) | (simp [go_sem]; done))); (focus (first | (simp; done) | (simp [go_sem]; done))); simp only [go_sem, *]) | (refine q8 (sO) ?_ ?_; (focus (simp only [go_sem, *]; done)); simp only [go_sem, *])) | ((with_reducible refine And.intro ?_ ?_); focus omega) | (refine z6 hK ?_; clear hK; simp only [go_sem, *]) | (simp only [z5, z4, go_sem, *]))
 all_goals try contradiction
 refine y8 rfl (fun zn zN zenv zAs => ∃ (i : Nat), zn = (H.length) - i ∧ i ≤ (H.length) ∧ (h ∉ H.take i) ∧ zN = 29 ∧ zenv = [(8, iV i), (7, r8 H), (5, .ptr 1 0), (4, .ptr 0 0)] ∧ zAs = [.box [.list (t.ways.map iV), .list (t.fin.map y6), .list (zPA H t.now)], .box [iV h.street, iV h.plate.number, iV h.plate.letter]]) (H.length) ⟨[some 1, some 2], [3], _, _, _, (by (simp only [Weak, go_sem, List.map_append, List.map_set, *] <;> (try simp (disch := omega) only [q9]) <;> (try simp) <;> (try omega))), 0, (by simp), (by simp), (by simp), rfl, rfl, rfl⟩ ?_; rintro _ _ _ _ ⟨i, rfl, hi, hP, rfl, rfl, rfl⟩
 by_cases hi : i < H.length
 ·have hi3 : (i : Int) < H.length := by omega
  by_cases q : H.getD i default = h
  ·have q' : decide (H.getD i default = h) = true := decide_eq_true q
   have e : t.now (H.getD i default) = t.now h := by rw [q]
   clear q hP hh
   repeat' (first | (show z3 ..; first | (refine Qr rfl ?_; try intro _ hK; try simp only [go_sem, *])) | (show Hold ..; first | refine Qh rfl ?_ | refine q6 rfl mixed (by kernel_rfl) ?_ | (refine z7 rfl ⟨_, rfl, fun hb => ?_, fun hb => ?_⟩ <;> (have hc := hb; try simp only [go_sem] at hc)) | refine z8 rfl ?_) | (refine Qb ?_ ?_; focus kernel_rfl) | ((with_reducible refine And.intro ?_ ?_); focus omega) | (refine z6 hK ?_; clear hK; simp only [go_sem, *]) | (simp only [z5, z4, go_sem, *]))
   all_goals try contradiction
   (refine ⟨[_], [], [], ⟨rfl, trivial⟩, ?_⟩; simp only [go_sem, *])
  ·have q' : decide (H.getD i default = h) = false := decide_eq_false q
   have hP2 : h ∉ H.take (i + 1) := by rw [j0 hi, List.mem_append, List.mem_singleton]; exact fun h => h.elim hP (fun e => q e.symm)
   clear q hP hh
   repeat' (first | (show z3 ..; first | (refine Qr rfl ?_; try intro _ hK; try simp only [go_sem, *])) | (show Hold ..; first | refine Qh rfl ?_ | refine q6 rfl mixed (by kernel_rfl) ?_ | (refine z7 rfl ⟨_, rfl, fun hb => ?_, fun hb => ?_⟩ <;> (have hc := hb; try simp only [go_sem] at hc)) | refine z8 rfl ?_) | (refine Qb ?_ ?_; focus kernel_rfl) | ((with_reducible refine And.intro ?_ ?_); focus omega) | (refine z6 hK ?_; clear hK; simp only [go_sem, *]) | (simp only [z5, z4, go_sem, *]))
   all_goals try contradiction
   refine ⟨_, (by omega), [some 0, some 1], [], _, _, _, (by (simp only [Weak, go_sem, List.map_append, List.map_set, *] <;> (try simp (disch := omega) only [q9]) <;> (try simp) <;> (try omega))), i + 1, rfl, (by omega), (by exact hP2), rfl, rfl, rfl⟩
 ·rw [List.take_of_length_le (by omega)] at hP
  exact absurd hh hP
def FaR (s : Story) (T : Truth) (k : Nat) (b : Bool) (A : Bool) : Prop := (b = true ∧ Q0 (s.facts.drop k) T = A) ∨ (b = false ∧ A = false)
theorem zNa (s : Story) (o : Told s) : zLJ prog 108 [s.enc] [] (.list ((t8 s).map (Truth.encR s.first))) [] := by
 have v := o.first
 have hct := v.count
 have hp0 := v.ne
 have hp3 := v.len
 have sO := zHU s.first (by have := v.len; omega) (fun l hl => by have := (v.rows l hl).len; omega) (by omega)
 have sL := zHV (n := s.first.length) (y4 s.first) (by omega) (fun z hz => by have := mem_houses.1 hz; exact ⟨this.1, this.2.1⟩) (by omega)
 rw [zJp v] at sL
 have sG := zNd s o s.steps.length (Y9 s) (zBA v)
 have hG : zMY s s.steps.length (Y9 s) = zMk s := rfl
 rw [hG] at sG
 have hf : Truth.encR s.first (Y9 s) = .agg [.list [], .list (s.first.map y6), .list (zPA (y4 s.first) zPF)] := rfl
 rw [hf] at sG
 have hLl := zNo o
 have h0 : ([] : List Truth) ++ ((zMk s).drop 0).filter (Q0 s.facts) = t8 s := by rw [← zM2]; rfl
 have hTl : (t8 s).length ≤ 27 := by rw [← zM2]; exact Nat.le_trans (List.length_filter_le _ _) hLl
 have sA := fun t h hh => zOS s t h v hh
 have hok := zNp v
 have hsrc : ∀ f, f ∈ s.facts → f.src ∈ y4 s.first := fun f hf => (o.fact f hf).1
 have hf4 := o.facts
 have h3 := o.steps
 have hsm : ∀ t, t ∈ zMk s → ∀ f, f ∈ s.facts → (t.now f.src).length ≤ 8 := fun t ht f hf => (hok t ht).small h3 (hsrc f hf)
 clear hG hf hok
 generalize t8 s = R at *
 generalize zMk s = L at *
 generalize hHd : y4 s.first = H at *
 refine y3 func108 rfl (fun E hE => ?_); simp only [go_sem, ntmps108]
 repeat' (first | (show z3 ..; first | (refine Qr rfl ?_; try intro _ hK; try simp only [go_sem, *]) | (refine Qi rfl rfl rfl rfl (fun hb _ hK => ?_) (fun hb => ?_) <;> (have hc := hb; try simp only [go_sem] at hc; simp only [go_sem, *]))) | (show Hold ..; first | refine Qh rfl ?_ | refine q6 rfl mixed (by kernel_rfl) ?_ | (refine z7 rfl ⟨_, rfl, fun hb => ?_, fun hb => ?_⟩ <;> (have hc := hb; try simp only [go_sem] at hc)) | refine z8 rfl ?_) | (refine Qb ?_ ?_; focus kernel_rfl) | (show q7 ..; first | (refine v5 (sO) ?_ ?_ ?_ ?_; (focus (simp only [go_sem, *]; done)); (focus (first | (simp; done) | (simp [go_sem]; done))); (focus (first | (simp; done) | (simp [go_sem]; done))); simp only [go_sem, *]) | (refine q8 (sO) ?_ ?_; (focus (simp only [go_sem, *]; done)); simp only [go_sem, *]) | (refine r6 (sL) ?_ rfl ?_ ?_ ?_ ?_; (focus (simp only [go_sem, *]; done)); (focus (simp only [go_sem, *]; done)); (focus (first | (simp; done) | (simp [go_sem]; done))); (focus (first | (simp; done) | (simp [go_sem]; done))); simp only [go_sem, w9, *])) | ((with_reducible refine And.intro ?_ ?_); focus omega) | (refine z6 hK ?_; clear hK; simp only [go_sem, *]) | (simp only [z5, z4, go_sem, *]))
 all_goals try contradiction
 refine y8 rfl (fun zn zN zenv zAs => ∃ (i : Nat), zn = (H.length) - i ∧ i ≤ (H.length) ∧ (NoP i) ∧ zN = 86 ∧ zenv = [(5, iV i), (4, r8 H), (3, .ptr 1 0), (1, .ptr 0 0)] ∧ zAs = [zMd s, .box [zLb, .list (s.first.map y6), .own 2 1 0 i], .box (zPA (H.take i) zPF)]) (H.length) ⟨[some 0, some 2, none], [3], _, _, _, (by (simp only [Weak, go_sem, List.map_append, List.map_set, *] <;> (try simp (disch := omega) only [q9]) <;> (try simp) <;> (try omega))), 0, (by simp), (by simp), (by trivial), rfl, rfl, rfl⟩ ?_; rintro _ _ _ _ ⟨i, rfl, hi, hP, rfl, rfl, rfl⟩
 by_cases hi : i < H.length
 ·have hi3 : (i : Int) < H.length := by omega
  have e := j0 (l := H) (i := i) hi
  have e1 : List.map House.enc (zPF (H.getD i default)) = [House.enc (H.getD i default)] := rfl
  repeat' (first | (show z3 ..; first | (refine Qr rfl ?_; try intro _ hK; try simp only [go_sem, *]) | (refine Qi rfl rfl rfl rfl (fun hb _ hK => ?_) (fun hb => ?_) <;> (have hc := hb; try simp only [go_sem] at hc; simp only [go_sem, *]))) | (show Hold ..; first | refine Qh rfl ?_ | refine q6 rfl mixed (by kernel_rfl) ?_ | (refine z7 rfl ⟨_, rfl, fun hb => ?_, fun hb => ?_⟩ <;> (have hc := hb; try simp only [go_sem] at hc)) | refine z8 rfl ?_) | (with_reducible (show (∀ _ : AV, _ → _) ∧ _); refine And.intro ?_ ?_; (focus (intro y hy; first | (obtain ⟨z, _, rfl⟩ := List.mem_map.1 (hy); simp [go_sem]; done) | (obtain ⟨z, _, rfl⟩ := List.mem_map.1 (List.mem_of_mem_take hy); simp [go_sem]; done) | (obtain ⟨z, _, rfl⟩ := List.mem_map.1 (List.mem_of_mem_drop hy); simp [go_sem]; done) | (obtain ⟨z, _, rfl⟩ := List.mem_map.1 (List.mem_of_mem_drop (List.mem_of_mem_take hy)); simp [go_sem]; done)))) | (refine Qb ?_ ?_; focus kernel_rfl) | ((with_reducible refine And.intro ?_ ?_); focus omega) | (refine z6 hK ?_; clear hK; simp only [go_sem, *]) | (simp only [z5, z4, go_sem, *]))
  all_goals try contradiction
  refine ⟨_, (by omega), [some 0, some 1, some 5], [3], _, _, _, (by (simp only [Weak, go_sem, List.map_append, List.map_set, *] <;> (try simp (disch := omega) only [q9]) <;> (try simp) <;> (try omega))), i + 1, rfl, (by omega), (by trivial), rfl, rfl, rfl⟩
 ·have hi3 : ¬ (i : Int) < H.length := by omega
  have e : H.take i = H := List.take_of_length_le (by omega)
  have e2 : i = H.length := by omega
  subst e2
  refine J9 (N := 86) (env := [(5, iV H.length), (4, r8 H), (3, .ptr 1 0), (1, .ptr 0 0)]) (As := [zMd s, .box [zLb, .list (s.first.map y6), .list (zPA H zPF)]]) [some 0, some 1] [2] (by (simp only [Weak, go_sem, List.map_append, List.map_set, *] <;> (try simp (disch := omega) only [q9]) <;> (try simp) <;> (try omega))) ?_
  clear e
  repeat' (first | (show z3 ..; first | (refine Qr rfl ?_; try intro _ hK; try simp only [go_sem, *]) | (refine Qi rfl rfl rfl rfl (fun hb _ hK => ?_) (fun hb => ?_) <;> (have hc := hb; try simp only [go_sem] at hc; simp only [go_sem, *]))) | (show Hold ..; first | refine Qh rfl ?_ | refine q6 rfl mixed (by kernel_rfl) ?_ | (refine z7 rfl ⟨_, rfl, fun hb => ?_, fun hb => ?_⟩ <;> (have hc := hb; try simp only [go_sem] at hc)) | refine z8 rfl ?_) | (refine Qb ?_ ?_; focus kernel_rfl) | (show q7 ..; first | (refine r6 (sG) ?_ rfl ?_ ?_ ?_ ?_; (focus (simp only [go_sem, *]; done)); (focus (simp only [go_sem, *]; done)); (focus (first | (simp; done) | (simp [go_sem]; done))); (focus (first | (simp; done) | (simp [go_sem]; done))); simp only [go_sem, w9, *])) | ((with_reducible refine And.intro ?_ ?_); focus omega) | (refine z6 hK ?_; clear hK; simp only [go_sem, *]) | (simp only [z5, z4, go_sem, *]))
  all_goals try contradiction
  clear sO sL sG
  refine y8 rfl (fun zn zN zenv zAs => ∃ (j : Nat) (acc : List Truth), zn = (L.length) - j ∧ j ≤ (L.length) ∧ (acc ++ (L.drop j).filter (Q0 s.facts) = R) ∧ zN = 86 ∧ zenv = [(8, iV j), (7, .list (L.map (Truth.encR s.first))), (6, .own 1 3 0 acc.length), (1, .ptr 0 0)] ∧ zAs = [zMd s, .row 3 (acc.map (Truth.encR s.first))]) (L.length) ⟨[some 0, none], [], _, _, _, (by (simp only [Weak, go_sem, List.map_append, List.map_set, *] <;> (try simp (disch := omega) only [q9]) <;> (try simp) <;> (try omega))), 0, [], (by simp), (by simp), (by exact h0), rfl, rfl, rfl⟩ ?_; rintro _ _ _ _ ⟨j, acc, rfl, hj, hQ, rfl, rfl, rfl⟩
  clear h0
  have hql := congrArg List.length hQ
  simp only [List.length_append] at hql
  by_cases hj : j < L.length
  ·have hj3 : (j : Int) < L.length := by omega
   have hm := w6 hj
   have hsm1 := hsm _ hm
   have sA1 := fun h hh => sA (L.getD j default) h hh
   have hd : (L.drop j).filter (Q0 s.facts) = if Q0 s.facts (L.getD j default) = true then L.getD j default :: (L.drop (j + 1)).filter (Q0 s.facts) else (L.drop (j + 1)).filter (Q0 s.facts) := by
    rw [v3 hj, List.filter_cons]
   rw [hd] at hQ
   have hf0 : FaR s (L.getD j default) 0 true (Q0 s.facts (L.getD j default)) := .inl ⟨rfl, rfl⟩
   clear hd sA hsm hm
   generalize Q0 s.facts (L.getD j default) = A at *
   simp only [Truth.encR, hHd] at sA1
   repeat' (first | (show z3 ..; first | (refine Qr rfl ?_; try intro _ hK; try simp only [go_sem, *]) | (refine Qi rfl rfl rfl rfl (fun hb _ hK => ?_) (fun hb => ?_) <;> (have hc := hb; try simp only [go_sem] at hc; simp only [go_sem, *]))) | (show Hold ..; first | refine Qh rfl ?_ | refine q6 rfl mixed (by kernel_rfl) ?_ | (refine z7 rfl ⟨_, rfl, fun hb => ?_, fun hb => ?_⟩ <;> (have hc := hb; try simp only [go_sem] at hc)) | refine z8 rfl ?_) | (refine Qb ?_ ?_; focus kernel_rfl) | ((with_reducible refine And.intro ?_ ?_); focus omega) | (refine z6 hK ?_; clear hK; simp only [go_sem, *]) | (simp only [z5, z4, go_sem, *]))
   all_goals try contradiction
   refine y8 rfl (fun zn zN zenv zAs => ∃ (k : Nat) (b : Bool), zn = (s.facts.length) - k ∧ k ≤ (s.facts.length) ∧ (FaR s (L.getD j default) k b A) ∧ zN = 86 ∧ zenv = [(10, iV k), (9, bV b), (8, iV j), (7, .list (L.map (Truth.encR s.first))), (6, .own 1 3 0 acc.length), (1, .ptr 0 0)] ∧ zAs = [zMd s, .row 3 (acc.map (Truth.encR s.first))]) (s.facts.length) ⟨[some 0, some 1], [], _, _, _, (by (simp only [Weak, go_sem, List.map_append, List.map_set, *] <;> (try simp (disch := omega) only [q9]) <;> (try simp) <;> (try omega))), 0, true, (by simp), (by simp), (by exact hf0), rfl, rfl, rfl⟩ ?_; rintro _ _ _ _ ⟨k, b, rfl, hk, hS, rfl, rfl, rfl⟩
   clear hf0
   by_cases hk : k < s.facts.length
   ·have hk3 : (k : Int) < s.facts.length := by omega
    rcases hS with ⟨rfl, hA⟩ | ⟨rfl, hA⟩
    ·rw [zD1 hk] at hA
     have hfm := w6 hk
     have sA2 := sA1 _ (hsrc _ hfm)
     have hsl := hsm1 _ hfm
     have sI := zNb ((L.getD j default).now (s.facts.getD k default).src) (s.facts.getD k default).dst (by omega)
     have hFa : FaR s (L.getD j default) (k + 1) (decide ((s.facts.getD k default).dst ∈ (L.getD j default).now (s.facts.getD k default).src)) A := by
      cases hd : decide ((s.facts.getD k default).dst ∈ (L.getD j default).now (s.facts.getD k default).src) with
      | true => rw [hd, Bool.true_and] at hA; exact .inl ⟨rfl, hA⟩
      | false => rw [hd, Bool.false_and] at hA; exact .inr ⟨rfl, hA.symm⟩
     clear hA sA1 hsm1 hfm hsrc
     generalize decide ((s.facts.getD k default).dst ∈ (L.getD j default).now (s.facts.getD k default).src) = b at *
     repeat' (first | (show z3 ..; first | (refine Qr rfl ?_; try intro _ hK; try simp only [go_sem, *]) | (refine Qi rfl rfl rfl rfl (fun hb _ hK => ?_) (fun hb => ?_) <;> (have hc := hb; try simp only [go_sem] at hc; simp only [go_sem, *]))) | (show Hold ..; first | refine Qh rfl ?_ | refine q6 rfl mixed (by kernel_rfl) ?_ | (refine z7 rfl ⟨_, rfl, fun hb => ?_, fun hb => ?_⟩ <;> (have hc := hb; try simp only [go_sem] at hc)) | refine z8 rfl ?_) | (refine Qb ?_ ?_; focus kernel_rfl) | (show q7 ..; first | ((first | refine q8 (sA2) ?_ ?_ | refine q8 (sI) ?_ ?_); (focus (simp only [go_sem, *]; done)); simp only [go_sem, *])) | ((with_reducible refine And.intro ?_ ?_); focus omega) | (refine z6 hK ?_; clear hK; simp only [go_sem, *]) | (simp only [z5, z4, go_sem, *]))
     all_goals try contradiction
     refine ⟨_, (by omega), [some 0, some 1], [], _, _, _, (by (simp only [Weak, go_sem, List.map_append, List.map_set, *] <;> (try simp (disch := omega) only [q9]) <;> (try simp) <;> (try omega))), k + 1, b, rfl, (by omega), (by exact hFa), rfl, rfl, rfl⟩
    ·have hFa : FaR s (L.getD j default) (k + 1) false A := .inr ⟨rfl, hA⟩
     clear hA sA1 hsm1 hsrc
     repeat' (first | (show z3 ..; first | (refine Qr rfl ?_; try intro _ hK; try simp only [go_sem, *]) | (refine Qi rfl rfl rfl rfl (fun hb _ hK => ?_) (fun hb => ?_) <;> (have hc := hb; try simp only [go_sem] at hc; simp only [go_sem, *]))) | (show Hold ..; first | refine Qh rfl ?_ | refine q6 rfl mixed (by kernel_rfl) ?_ | (refine z7 rfl ⟨_, rfl, fun hb => ?_, fun hb => ?_⟩ <;> (have hc := hb; try simp only [go_sem] at hc)) | refine z8 rfl ?_) | (refine Qb ?_ ?_; focus kernel_rfl) | ((with_reducible refine And.intro ?_ ?_); focus omega) | (refine z6 hK ?_; clear hK; simp only [go_sem, *]) | (simp only [z5, z4, go_sem, *]))
     all_goals try contradiction
     refine ⟨_, (by omega), [some 0, some 1], [], _, _, _, (by (simp only [Weak, go_sem, List.map_append, List.map_set, *] <;> (try simp (disch := omega) only [q9]) <;> (try simp) <;> (try omega))), k + 1, false, rfl, (by omega), (by exact hFa), rfl, rfl, rfl⟩
   ·have hk3 : ¬ (k : Int) < s.facts.length := by omega
    have hbA : b = A := by
     rcases hS with ⟨rfl, hA⟩ | ⟨rfl, hA⟩
     ·rw [← hA, v4 (by omega)]; rfl
     ·exact hA.symm
    subst hbA
    clear hS sA1 hsm1 hsrc
    cases b with
    | true =>
     rw [if_pos rfl] at hQ
     repeat' (first | (show z3 ..; first | (refine Qr rfl ?_; try intro _ hK; try simp only [go_sem, *]) | (refine Qi rfl rfl rfl rfl (fun hb _ hK => ?_) (fun hb => ?_) <;> (have hc := hb; try simp only [go_sem] at hc; simp only [go_sem, *]))) | (show Hold ..; first | refine Qh rfl ?_ | refine q6 rfl mixed (by kernel_rfl) ?_ | (refine z7 rfl ⟨_, rfl, fun hb => ?_, fun hb => ?_⟩ <;> (have hc := hb; try simp only [go_sem] at hc)) | refine z8 rfl ?_) | (with_reducible (show (∀ _ : AV, _ → _) ∧ _); refine And.intro ?_ ?_; (focus (intro y hy; first | (obtain ⟨z, _, rfl⟩ := List.mem_map.1 (hy); simp [go_sem]; done) | (obtain ⟨z, _, rfl⟩ := List.mem_map.1 (List.mem_of_mem_take hy); simp [go_sem]; done) | (obtain ⟨z, _, rfl⟩ := List.mem_map.1 (List.mem_of_mem_drop hy); simp [go_sem]; done) | (obtain ⟨z, _, rfl⟩ := List.mem_map.1 (List.mem_of_mem_drop (List.mem_of_mem_take hy)); simp [go_sem]; done)))) | (refine Qb ?_ ?_; focus kernel_rfl) | ((with_reducible refine And.intro ?_ ?_); focus omega) | (refine z6 hK ?_; clear hK; simp only [go_sem, *]) | (simp only [z5, z4, go_sem, *]))
     all_goals try contradiction
     refine ⟨_, (by omega), [some 0, some 3], [], _, _, _, (by (simp only [Weak, go_sem, List.map_append, List.map_set, *] <;> (try simp (disch := omega) only [q9]) <;> (try simp) <;> (try omega))), j + 1, acc ++ [L.getD j default], rfl, (by omega), (by rw [← hQ]; simp), rfl, rfl, rfl⟩
    | false =>
     rw [if_neg (by decide)] at hQ
     repeat' (first | (show z3 ..; first | (refine Qr rfl ?_; try intro _ hK; try simp only [go_sem, *]) | (refine Qi rfl rfl rfl rfl (fun hb _ hK => ?_) (fun hb => ?_) <;> (have hc := hb; try simp only [go_sem] at hc; simp only [go_sem, *]))) | (show Hold ..; first | refine Qh rfl ?_ | refine q6 rfl mixed (by kernel_rfl) ?_ | (refine z7 rfl ⟨_, rfl, fun hb => ?_, fun hb => ?_⟩ <;> (have hc := hb; try simp only [go_sem] at hc)) | refine z8 rfl ?_) | (refine Qb ?_ ?_; focus kernel_rfl) | ((with_reducible refine And.intro ?_ ?_); focus omega) | (refine z6 hK ?_; clear hK; simp only [go_sem, *]) | (simp only [z5, z4, go_sem, *]))
     all_goals try contradiction
     refine ⟨_, (by omega), [some 0, some 1], [], _, _, _, (by (simp only [Weak, go_sem, List.map_append, List.map_set, *] <;> (try simp (disch := omega) only [q9]) <;> (try simp) <;> (try omega))), j + 1, acc, rfl, (by omega), (by exact hQ), rfl, rfl, rfl⟩
  ·have hj3 : ¬ (j : Int) < L.length := by omega
   rw [v4 (by omega), List.filter_nil, List.append_nil] at hQ
   subst hQ
   clear sA hsm hsrc
   repeat' (first | (show z3 ..; first | (refine Qr rfl ?_; try intro _ hK; try simp only [go_sem, *]) | (refine Qi rfl rfl rfl rfl (fun hb _ hK => ?_) (fun hb => ?_) <;> (have hc := hb; try simp only [go_sem] at hc; simp only [go_sem, *]))) | (show Hold ..; first | refine Qh rfl ?_ | refine q6 rfl mixed (by kernel_rfl) ?_ | (refine z7 rfl ⟨_, rfl, fun hb => ?_, fun hb => ?_⟩ <;> (have hc := hb; try simp only [go_sem] at hc)) | refine z8 rfl ?_) | (refine Qb ?_ ?_; focus kernel_rfl) | ((with_reducible refine And.intro ?_ ?_); focus omega) | (refine z6 hK ?_; clear hK; simp only [go_sem, *]) | (simp only [z5, z4, go_sem, *]))
   all_goals try contradiction
   refine ⟨[.own 1 3 0 acc.length], [], [1], ⟨rfl, trivial⟩, ?_⟩
   simp only [go_sem, *]
end Go.Abs

namespace Go.Abs
open Go Go.Proofs Tryz
attribute [local irreducible] z3 Hold q7
def zMZ : List Truth → List zLI → List zLI
 | [], acc => acc
 | t :: r, acc => zMZ r (if t.fin ∈ acc then acc else acc ++ [t.fin])
def zMg (s : Story) : List zLI := if r4 s = 0 then zMZ (t8 s) [] else []
def zMi (s : Story) : List (List Int) := if r4 s = 0 then F3 s else []
theorem zNI {l : List Truth} {acc : List zLI} {i : Nat} (h : i < l.length) (e : (l.getD i default).fin ∈ acc) : zMZ (l.drop i) acc = zMZ (l.drop (i + 1)) acc := by rw [v3 h, zMZ, if_pos e]
theorem zNH {l : List Truth} {acc : List zLI} {i : Nat} (h : i < l.length) (e : ¬ (l.getD i default).fin ∈ acc) : zMZ (l.drop i) acc = zMZ (l.drop (i + 1)) (acc ++ [(l.getD i default).fin]) := by rw [v3 h, zMZ, if_neg e]
theorem zOb (s : Story) (hb : Bound 1048576 s) : zLJ prog 53 [s.enc] [] (.tup [.list ((zMi s).map l6), iV (r4 s)]) [] := by
 have s1 := zNc s (by have := hb.steps; omega) (fun w hw => by have := hb.ways w hw; omega) (by have := hb.facts; omega) (by have := hb.first.len; omega) (r4 s) rfl
 unfold zMi
 by_cases e : r4 s = 0
 ·have o := F1 e
  have s2 := zNa s o
  have hl := K3 o.steps (fun w hw => (o.ways w hw).2.1)
  rw [if_pos e]
  rw [e] at s1 ⊢
  unfold F3
  clear e hb
  generalize t8 s = L at *
  refine y3 func53 rfl (fun E hE => ?_); simp only [go_sem, ntmps53]
  repeat' (first | (show z3 ..; first | (refine Qr rfl ?_; try intro _ hK; try simp only [go_sem, *])) | (show Hold ..; first | refine Qh rfl ?_ | (refine z7 rfl ⟨_, rfl, fun hb => ?_, fun hb => ?_⟩ <;> (have hc := hb; try simp only [go_sem] at hc)) | refine z8 rfl ?_) | (show q7 ..; first | ((first | refine q8 (s1) ?_ ?_ | refine q8 (s2) ?_ ?_); (focus (simp only [go_sem, *]; done)); simp only [go_sem, *])) | ((with_reducible refine And.intro ?_ ?_); focus omega) | (refine z6 hK ?_; clear hK; simp only [go_sem, *]) | (simp only [z5, z4, go_sem, *]))
  all_goals try contradiction
  refine y8 rfl (fun zn zN zenv zAs => ∃ (i : Nat), zn = (L.length) - i ∧ i ≤ (L.length) ∧ (NoP i) ∧ zN = 30 ∧ zenv = [(7, iV i), (6, .list (L.map (Truth.encR s.first))), (5, .own 0 1 0 i)] ∧ zAs = [.box ((L.take i).map fun t => l6 t.ways)]) (L.length) ⟨[none], [], _, _, _, (by (simp only [Weak, go_sem, List.map_append, List.map_set, *] <;> (try simp (disch := omega) only [q9]) <;> (try simp) <;> (try omega))), 0, (by simp), (by simp), (by trivial), rfl, rfl, rfl⟩ ?_; rintro _ _ _ _ ⟨i, rfl, hi, hP, rfl, rfl, rfl⟩
  by_cases hi : i < L.length
  ·have hi3 : (i : Int) < L.length := by omega
   have e := j0 (l := L) (i := i) hi
   repeat' (first | (show z3 ..; first | (refine Qr rfl ?_; try intro _ hK; try simp only [go_sem, *])) | (show Hold ..; first | refine Qh rfl ?_ | (refine z7 rfl ⟨_, rfl, fun hb => ?_, fun hb => ?_⟩ <;> (have hc := hb; try simp only [go_sem] at hc)) | refine z8 rfl ?_) | ((with_reducible refine And.intro ?_ ?_); focus omega) | (refine z6 hK ?_; clear hK; simp only [go_sem, *]) | (simp only [z5, z4, go_sem, *]))
   all_goals try contradiction
   refine ⟨_, (by omega), [some 2], [], _, _, _, (by (simp only [Weak, go_sem, List.map_append, List.map_set, *] <;> (try simp (disch := omega) only [q9]) <;> (try simp) <;> (try omega))), i + 1, rfl, (by omega), (by trivial), rfl, rfl, rfl⟩
  ·have hi3 : ¬ (i : Int) < L.length := by omega
   have e : L.take i = L := List.take_of_length_le (by omega)
   repeat' (first | (show z3 ..; first | (refine Qr rfl ?_; try intro _ hK; try simp only [go_sem, *])) | (show Hold ..; first | refine Qh rfl ?_ | (refine z7 rfl ⟨_, rfl, fun hb => ?_, fun hb => ?_⟩ <;> (have hc := hb; try simp only [go_sem] at hc)) | refine z8 rfl ?_) | ((with_reducible refine And.intro ?_ ?_); focus omega) | (refine z6 hK ?_; clear hK; simp only [go_sem, *]) | (simp only [z5, z4, go_sem, *]))
   all_goals try contradiction
   refine ⟨[_, _], [], [0], ⟨rfl, rfl, trivial⟩, ?_⟩
   simp only [go_sem, *]
   exact ⟨by omega, fun x hx => by obtain ⟨_, _, rfl⟩ := List.mem_map.1 hx; rfl, .inl (by simp [Function.comp_def])⟩
 ·rw [if_neg e]
  have e2 : (r4 s != 0) = true := by simpa using e
  clear e
  generalize r4 s = k at *
  refine y3 func53 rfl (fun E hE => ?_); simp only [go_sem, ntmps53]
  repeat' (first | (show z3 ..; first | (refine Qr rfl ?_; try intro _ hK; try simp only [go_sem, *])) | (show Hold ..; first | refine Qh rfl ?_ | (refine z7 rfl ⟨_, rfl, fun hb => ?_, fun hb => ?_⟩ <;> (have hc := hb; try simp only [go_sem] at hc)) | refine z8 rfl ?_) | (show q7 ..; first | (refine q8 (s1) ?_ ?_; (focus (simp only [go_sem, *]; done)); simp only [go_sem, *])) | ((with_reducible refine And.intro ?_ ?_); focus omega) | (refine z6 hK ?_; clear hK; simp only [go_sem, *]) | (simp only [z5, z4, go_sem, *]))
  all_goals try contradiction
  (refine ⟨[_, _], [], [], ⟨rfl, rfl, trivial⟩, ?_⟩; simp only [go_sem, *])
theorem zOR (s : Story) (hb : Bound 1048576 s) : zLJ prog 39 [s.enc] [] (.tup [.list ((zMi s).map l6), iV (r4 s)]) [] := by
 unfold zMi
 by_cases e : r4 s = 0
 ·have h := zG1 s e
  rw [if_pos e, e]; exact h
 ·have sa := zK5 s (by have := hb.steps; omega) (fun w hw => by have := hb.ways w hw; omega) (by have := hb.facts; omega) (by have := hb.first.len; omega) e
  rw [if_neg e]
  have e2 : (r4 s != 0) = true := by simpa using e
  clear e
  generalize r4 s = k at *
  refine y3 func39 rfl (fun E hE => ?_); simp only [go_sem, ntmps39]
  repeat' (first | (show z3 ..; first | (refine Qr rfl ?_; try intro _ hK; try simp only [go_sem, *])) | (show Hold ..; first | refine Qh rfl ?_ | (refine z7 rfl ⟨_, rfl, fun hb => ?_, fun hb => ?_⟩ <;> (have hc := hb; try simp only [go_sem] at hc)) | refine z8 rfl ?_) | (show q7 ..; first | (refine q8 (sa) ?_ ?_; (focus (simp only [go_sem, *]; done)); simp only [go_sem, *])) | ((with_reducible refine And.intro ?_ ?_); focus omega) | (refine z6 hK ?_; clear hK; simp only [go_sem, *]) | (simp only [z5, z4, go_sem, *]))
  all_goals try contradiction
  (refine ⟨[_, _], [], [], ⟨rfl, rfl, trivial⟩, ?_⟩; simp only [go_sem, *])
theorem zOY (s : Story) (hb : Bound 1048576 s) : zLJ prog 55 [s.enc] [] (.tup [.list ((zMg s).map y5), iV (r4 s)]) [] := by
 have s1 := zNc s (by have := hb.steps; omega) (fun w hw => by have := hb.ways w hw; omega) (by have := hb.facts; omega) (by have := hb.first.len; omega) (r4 s) rfl
 unfold zMg
 by_cases e : r4 s = 0
 ·have o := F1 e
  have s2 := zNa s o
  have hl := K3 o.steps (fun w hw => (o.ways w hw).2.1)
  have hok := zCs o.first
  rw [if_pos e]
  rw [e] at s1 ⊢
  have h0 : zMZ ((t8 s).drop 0) [] = zMZ (t8 s) [] := rfl
  have hv : ∀ t, t ∈ t8 s → Valid t.fin := fun t ht => (hok t ht).val
  clear e hb hok
  generalize zMZ (t8 s) [] = R at *
  generalize t8 s = L at *
  refine y3 func55 rfl (fun E hE => ?_); simp only [go_sem, ntmps55]
  repeat' (first | (show z3 ..; first | (refine Qr rfl ?_; try intro _ hK; try simp only [go_sem, *]) | (refine Qi rfl rfl rfl rfl (fun hb _ hK => ?_) (fun hb => ?_) <;> (have hc := hb; try simp only [go_sem] at hc; simp only [go_sem, *]))) | (show Hold ..; first | refine Qh rfl ?_ | refine q6 rfl mixed (by kernel_rfl) ?_ | (refine z7 rfl ⟨_, rfl, fun hb => ?_, fun hb => ?_⟩ <;> (have hc := hb; try simp only [go_sem] at hc)) | refine z8 rfl ?_) | (refine Qb ?_ ?_; focus kernel_rfl) | (show q7 ..; first | ((first | refine q8 (s1) ?_ ?_ | refine q8 (s2) ?_ ?_); (focus (simp only [go_sem, *]; done)); simp only [go_sem, *])) | ((with_reducible refine And.intro ?_ ?_); focus omega) | (refine z6 hK ?_; clear hK; simp only [go_sem, *]) | (simp only [z5, z4, go_sem, *]))
  all_goals try contradiction
  refine y8 rfl (fun zn zN zenv zAs => ∃ (i : Nat) (acc : List zLI), zn = (L.length) - i ∧ i ≤ (L.length) ∧ (zMZ (L.drop i) acc = R ∧ acc.length ≤ i ∧ ∀ q, q ∈ acc → q.length ≤ 3 ∧ ∀ l, l ∈ q → l.length ≤ 8) ∧ zN = 53 ∧ zenv = [(7, iV i), (6, .list (L.map (Truth.encR s.first))), (5, .own 0 1 0 acc.length)] ∧ zAs = [.row 1 (acc.map y5)]) (L.length) ⟨[none], [], _, _, _, (by (simp only [Weak, go_sem, List.map_append, List.map_set, *] <;> (try simp (disch := omega) only [q9]) <;> (try simp) <;> (try omega))), 0, [], (by simp), (by simp), (by exact ⟨h0, by simp, fun q hq => by cases hq⟩), rfl, rfl, rfl⟩ ?_; rintro _ _ _ _ ⟨i, acc, rfl, hi, hP, rfl, rfl, rfl⟩
  clear h0
  obtain ⟨hP, hal, hac⟩ := hP
  by_cases hi : i < L.length
  ·have hi3 : (i : Int) < L.length := by omega
   have v := hv _ (w6 hi)
   have hy := zNI (acc := acc) hi
   have hn := zNH (acc := acc) hi
   have hfl : (L.getD i default).fin.length ≤ 3 ∧ ∀ l, l ∈ (L.getD i default).fin → l.length ≤ 8 := ⟨v.len, fun l hl => (v.rows l hl).len⟩
   clear hv v
   repeat' (first | (show z3 ..; first | (refine Qr rfl ?_; try intro _ hK; try simp only [go_sem, *]) | (refine Qi rfl rfl rfl rfl (fun hb _ hK => ?_) (fun hb => ?_) <;> (have hc := hb; try simp only [go_sem] at hc; simp only [go_sem, *]))) | (show Hold ..; first | refine Qh rfl ?_ | refine q6 rfl mixed (by kernel_rfl) ?_ | (refine z7 rfl ⟨_, rfl, fun hb => ?_, fun hb => ?_⟩ <;> (have hc := hb; try simp only [go_sem] at hc)) | refine z8 rfl ?_) | (refine Qb ?_ ?_; focus kernel_rfl) | ((with_reducible refine And.intro ?_ ?_); focus omega) | (refine z6 hK ?_; clear hK; simp only [go_sem, *]) | (simp only [z5, z4, go_sem, *]))
   all_goals try contradiction
   refine y8 rfl (fun zn zN zenv zAs => ∃ (k : Nat) (b : Bool), zn = (acc.length) - k ∧ k ≤ (acc.length) ∧ ((b = true ↔ (L.getD i default).fin ∈ acc.take k)) ∧ zN = 53 ∧ zenv = [(9, iV k), (8, bV b), (7, iV i), (6, .list (L.map (Truth.encR s.first))), (5, .own 0 1 0 acc.length)] ∧ zAs = [.row 1 (acc.map y5)]) (acc.length) ⟨[some 0], [], _, _, _, (by (simp only [Weak, go_sem, List.map_append, List.map_set, *] <;> (try simp (disch := omega) only [q9]) <;> (try simp) <;> (try omega))), 0, false, (by simp), (by simp), (by simp), rfl, rfl, rfl⟩ ?_; rintro _ _ _ _ ⟨k, b, rfl, hk, hQ, rfl, rfl, rfl⟩
   by_cases hk : k < acc.length
   ·have hk3 : (k : Int) < acc.length := by omega
    have hq := hac _ (w6 hk)
    have sS := zOa (acc.getD k default) (L.getD i default).fin (by omega) (fun l hl => by have := hq.2 l hl; omega)
    cases b with
    | true =>
     have hQ2 : (true = true ↔ (L.getD i default).fin ∈ acc.take (k + 1)) := by rw [j0 hk, List.mem_append]; simp only [true_iff]; exact .inl (hQ.1 rfl)
     clear hQ hy hn hac hq
     repeat' (first | (show z3 ..; first | (refine Qr rfl ?_; try intro _ hK; try simp only [go_sem, *]) | (refine Qi rfl rfl rfl rfl (fun hb _ hK => ?_) (fun hb => ?_) <;> (have hc := hb; try simp only [go_sem] at hc; simp only [go_sem, *]))) | (show Hold ..; first | refine Qh rfl ?_ | refine q6 rfl mixed (by kernel_rfl) ?_ | (refine z7 rfl ⟨_, rfl, fun hb => ?_, fun hb => ?_⟩ <;> (have hc := hb; try simp only [go_sem] at hc)) | refine z8 rfl ?_) | (refine Qb ?_ ?_; focus kernel_rfl) | ((with_reducible refine And.intro ?_ ?_); focus omega) | (refine z6 hK ?_; clear hK; simp only [go_sem, *]) | (simp only [z5, z4, go_sem, *]))
     all_goals try contradiction
     refine ⟨_, (by omega), [some 0], [], _, _, _, (by (simp only [Weak, go_sem, List.map_append, List.map_set, *] <;> (try simp (disch := omega) only [q9]) <;> (try simp) <;> (try omega))), k + 1, true, rfl, (by omega), (by exact hQ2), rfl, rfl, rfl⟩
    | false =>
     have hQ2 : (decide (acc.getD k default = (L.getD i default).fin) = true ↔ (L.getD i default).fin ∈ acc.take (k + 1)) := by
      rw [j0 hk, List.mem_append, List.mem_singleton, decide_eq_true_eq]
      constructor
      ·intro e; exact .inr e.symm
      ·rintro (h | h)
       ·exact absurd (hQ.2 h) (by decide)
       ·exact h.symm
     clear hQ hy hn hac hq
     generalize decide (acc.getD k default = (L.getD i default).fin) = b at *
     repeat' (first | (show z3 ..; first | (refine Qr rfl ?_; try intro _ hK; try simp only [go_sem, *]) | (refine Qi rfl rfl rfl rfl (fun hb _ hK => ?_) (fun hb => ?_) <;> (have hc := hb; try simp only [go_sem] at hc; simp only [go_sem, *]))) | (show Hold ..; first | refine Qh rfl ?_ | refine q6 rfl mixed (by kernel_rfl) ?_ | (refine z7 rfl ⟨_, rfl, fun hb => ?_, fun hb => ?_⟩ <;> (have hc := hb; try simp only [go_sem] at hc)) | refine z8 rfl ?_) | (refine Qb ?_ ?_; focus kernel_rfl) | (show q7 ..; first | (refine q8 (sS) ?_ ?_; (focus (simp only [go_sem, *]; done)); simp only [go_sem, *])) | ((with_reducible refine And.intro ?_ ?_); focus omega) | (refine z6 hK ?_; clear hK; simp only [go_sem, *]) | (simp only [z5, z4, go_sem, *]))
     all_goals try contradiction
     refine ⟨_, (by omega), [some 0], [], _, _, _, (by (simp only [Weak, go_sem, List.map_append, List.map_set, *] <;> (try simp (disch := omega) only [q9]) <;> (try simp) <;> (try omega))), k + 1, b, rfl, (by omega), (by exact hQ2), rfl, rfl, rfl⟩
   ·have hk3 : ¬ (k : Int) < acc.length := by omega
    rw [List.take_of_length_le (by omega)] at hQ
    cases b with
    | true =>
     rw [hy (hQ.1 rfl)] at hP
     clear hy hn hQ
     repeat' (first | (show z3 ..; first | (refine Qr rfl ?_; try intro _ hK; try simp only [go_sem, *]) | (refine Qi rfl rfl rfl rfl (fun hb _ hK => ?_) (fun hb => ?_) <;> (have hc := hb; try simp only [go_sem] at hc; simp only [go_sem, *]))) | (show Hold ..; first | refine Qh rfl ?_ | refine q6 rfl mixed (by kernel_rfl) ?_ | (refine z7 rfl ⟨_, rfl, fun hb => ?_, fun hb => ?_⟩ <;> (have hc := hb; try simp only [go_sem] at hc)) | refine z8 rfl ?_) | (refine Qb ?_ ?_; focus kernel_rfl) | ((with_reducible refine And.intro ?_ ?_); focus omega) | (refine z6 hK ?_; clear hK; simp only [go_sem, *]) | (simp only [z5, z4, go_sem, *]))
     all_goals try contradiction
     refine ⟨_, (by omega), [some 0], [], _, _, _, (by (simp only [Weak, go_sem, List.map_append, List.map_set, *] <;> (try simp (disch := omega) only [q9]) <;> (try simp) <;> (try omega))), i + 1, acc, rfl, (by omega), (by exact ⟨hP, by omega, hac⟩), rfl, rfl, rfl⟩
    | false =>
     rw [hn (fun h => by have := hQ.2 h; cases this)] at hP
     clear hy hn hQ
     repeat' (first | (show z3 ..; first | (refine Qr rfl ?_; try intro _ hK; try simp only [go_sem, *]) | (refine Qi rfl rfl rfl rfl (fun hb _ hK => ?_) (fun hb => ?_) <;> (have hc := hb; try simp only [go_sem] at hc; simp only [go_sem, *]))) | (show Hold ..; first | refine Qh rfl ?_ | refine q6 rfl mixed (by kernel_rfl) ?_ | (refine z7 rfl ⟨_, rfl, fun hb => ?_, fun hb => ?_⟩ <;> (have hc := hb; try simp only [go_sem] at hc)) | refine z8 rfl ?_) | (with_reducible (show (∀ _ : AV, _ → _) ∧ _); refine And.intro ?_ ?_; (focus (intro y hy; first | (obtain ⟨z, _, rfl⟩ := List.mem_map.1 (hy); simp [go_sem]; done) | (obtain ⟨z, _, rfl⟩ := List.mem_map.1 (List.mem_of_mem_take hy); simp [go_sem]; done) | (obtain ⟨z, _, rfl⟩ := List.mem_map.1 (List.mem_of_mem_drop hy); simp [go_sem]; done) | (obtain ⟨z, _, rfl⟩ := List.mem_map.1 (List.mem_of_mem_drop (List.mem_of_mem_take hy)); simp [go_sem]; done)))) | (refine Qb ?_ ?_; focus kernel_rfl) | ((with_reducible refine And.intro ?_ ?_); focus omega) | (refine z6 hK ?_; clear hK; simp only [go_sem, *]) | (simp only [z5, z4, go_sem, *]))
     all_goals try contradiction
     refine ⟨_, (by omega), [some 2], [], _, _, _, (by (simp only [Weak, go_sem, List.map_append, List.map_set, *] <;> (try simp (disch := omega) only [q9]) <;> (try simp) <;> (try omega))), i + 1, acc ++ [(L.getD i default).fin], rfl, (by omega), (by exact ⟨hP, by simp; omega, fun q hq => by
      rcases List.mem_append.1 hq with hq | hq
      ·exact hac q hq
      ·rw [List.mem_singleton.1 hq]; exact hfl⟩), rfl, rfl, rfl⟩
  ·have hi3 : ¬ (i : Int) < L.length := by omega
   rw [v4 (by omega), zMZ] at hP
   subst hP
   clear hv hac
   repeat' (first | (show z3 ..; first | (refine Qr rfl ?_; try intro _ hK; try simp only [go_sem, *]) | (refine Qi rfl rfl rfl rfl (fun hb _ hK => ?_) (fun hb => ?_) <;> (have hc := hb; try simp only [go_sem] at hc; simp only [go_sem, *]))) | (show Hold ..; first | refine Qh rfl ?_ | refine q6 rfl mixed (by kernel_rfl) ?_ | (refine z7 rfl ⟨_, rfl, fun hb => ?_, fun hb => ?_⟩ <;> (have hc := hb; try simp only [go_sem] at hc)) | refine z8 rfl ?_) | (refine Qb ?_ ?_; focus kernel_rfl) | ((with_reducible refine And.intro ?_ ?_); focus omega) | (refine z6 hK ?_; clear hK; simp only [go_sem, *]) | (simp only [z5, z4, go_sem, *]))
   all_goals try contradiction
   refine ⟨[_, _], [], [0], ⟨rfl, rfl, trivial⟩, ?_⟩
   simp only [go_sem, *]
 ·rw [if_neg e]
  have e2 : (r4 s != 0) = true := by simpa using e
  clear e
  generalize r4 s = k at *
  refine y3 func55 rfl (fun E hE => ?_); simp only [go_sem, ntmps55]
  repeat' (first | (show z3 ..; first | (refine Qr rfl ?_; try intro _ hK; try simp only [go_sem, *]) | (refine Qi rfl rfl rfl rfl (fun hb _ hK => ?_) (fun hb => ?_) <;> (have hc := hb; try simp only [go_sem] at hc; simp only [go_sem, *]))) | (show Hold ..; first | refine Qh rfl ?_ | refine q6 rfl mixed (by kernel_rfl) ?_ | (refine z7 rfl ⟨_, rfl, fun hb => ?_, fun hb => ?_⟩ <;> (have hc := hb; try simp only [go_sem] at hc)) | refine z8 rfl ?_) | (refine Qb ?_ ?_; focus kernel_rfl) | (show q7 ..; first | (refine q8 (s1) ?_ ?_; (focus (simp only [go_sem, *]; done)); simp only [go_sem, *])) | ((with_reducible refine And.intro ?_ ?_); focus omega) | (refine z6 hK ?_; clear hK; simp only [go_sem, *]) | (simp only [z5, z4, go_sem, *]))
  all_goals try contradiction
  (refine ⟨[_, _], [], [], ⟨rfl, rfl, trivial⟩, ?_⟩; simp only [go_sem, *])
end Go.Abs

namespace Go.Abs
open Go Go.Proofs Tryz
attribute [local irreducible] z3 Hold q7
@[reducible] def zPD (p : zLI) (t : Truth) : AObj := .box [.list (t.ways.map iV), .list (t.fin.map y6), .fmap (w5 p) (w4 p t.now)]
theorem zON (p q : zLI) (t : Truth) (h1 : q.length ≤ 4294967296) (h2 : ∀ l, l ∈ q → l.length ≤ 4294967296) : zLJ prog 110 [y5 q, .ptr 0 0] [zPD p t] (bV (decide (q = t.fin))) [zPD p t] := by
 have ss := zHc q t.fin h1 h2
 generalize decide (q = t.fin) = b at *
 refine y3 func110 rfl (fun E hE => ?_); simp only [go_sem, ntmps110]
 repeat' (first | (show z3 ..; first | (refine Qr rfl ?_; try intro _ hK; try simp only [go_sem, *])) | (show Hold ..; first | refine Qh rfl ?_ | (refine z7 rfl ⟨_, rfl, fun hb => ?_, fun hb => ?_⟩ <;> (have hc := hb; try simp only [go_sem] at hc)) | refine z8 rfl ?_) | (show q7 ..; first | (refine q8 (ss) ?_ ?_; (focus (simp only [go_sem, *]; done)); simp only [go_sem, *])) | ((with_reducible refine And.intro ?_ ?_); focus omega) | (refine z6 hK ?_; clear hK; simp only [go_sem, *]) | (simp only [z5, z4, go_sem, *]))
 all_goals try contradiction
 refine ⟨[_], [some 0], [], ⟨rfl, trivial⟩, ?_⟩
 simp only [go_sem, *]
def zO7 : List zLI → zLI → Nat → Int
 | [], _, _ => -1
 | x :: r, q, i => if x = q then i else zO7 r q (i + 1)
theorem zNT (q : zLI) : ∀ (l : List zLI) (i : Nat), decide (zO7 l q i ≥ 0) = decide (q ∈ l)
 | [], i => by simp [zO7]
 | x :: r, i => by
  rw [zO7]
  by_cases e : x = q
  ·rw [if_pos e]; simp [e]
  ·rw [if_neg e, zNT q r (i + 1)]
   have e2 : ¬ q = x := fun h => e h.symm
   simp [e2]
theorem zOQ (p : zLI) (l : List zLI) (t : Truth) (hl : l.length ≤ 1000) (h1 : ∀ q, q ∈ l → q.length ≤ 4294967296) (h2 : ∀ q, q ∈ l → ∀ x, x ∈ q → x.length ≤ 4294967296) :
  zLJ prog 144 [.own 0 1 0 l.length, .fn 110 [.ptr 1 0]] [.row 1 (l.map y5), zPD p t] (iV (zO7 l t.fin 0)) [.row 1 (l.map y5), zPD p t] := by
 have hca : r5 prog 110 = true := by kernel_rfl
 have hw1 : IntKind.i64.wrap (-1) = (-1 : Int) := wrap_i64 (by omega) (by omega)
 have h0 : zO7 (l.drop 0) t.fin 0 = zO7 l t.fin 0 := rfl
 generalize zO7 l t.fin 0 = R at *
 refine y3 func144 rfl (fun E hE => ?_); simp only [go_sem, ntmps144]
 repeat' (first | (show z3 ..; first | (refine Qr rfl ?_; try intro _ hK; try simp only [go_sem, *])) | (show Hold ..; first | refine Qh rfl ?_ | (refine z7 rfl ⟨_, rfl, fun hb => ?_, fun hb => ?_⟩ <;> (have hc := hb; try simp only [go_sem] at hc)) | refine z8 rfl ?_) | ((with_reducible refine And.intro ?_ ?_); focus omega) | (refine z6 hK ?_; clear hK; simp only [go_sem, *]) | (simp only [z5, z4, go_sem, *]))
 all_goals try contradiction
 refine y8 rfl (fun zn zN zenv zAs => ∃ (i : Nat), zn = (l.length) - i ∧ i ≤ (l.length) ∧ (zO7 (l.drop i) t.fin i = R) ∧ zN = 19 ∧ zenv = [(8, iV i), (7, iV l.length), (1, .fn 110 [.ptr 1 0]), (0, .own 0 1 0 l.length)] ∧ zAs = [.row 1 (l.map y5), zPD p t]) (l.length) ⟨[some 0, some 1], [], _, _, _, (by (simp only [Weak, go_sem, List.map_append, List.map_set, *] <;> (try simp (disch := omega) only [q9]) <;> (try simp) <;> (try omega))), 0, (by simp), (by simp), (by exact h0), rfl, rfl, rfl⟩ ?_; rintro _ _ _ _ ⟨i, rfl, hi, hP, rfl, rfl, rfl⟩
 clear h0
 by_cases hi : i < l.length
 ·have hi3 : (i : Int) < l.length := by omega
  have hm := w6 hi
  have sE := zON p (l.getD i default) t (h1 _ hm) (h2 _ hm)
  rw [v3 hi, zO7] at hP
  clear h1 h2 hm
  by_cases q : l.getD i default = t.fin
  ·rw [decide_eq_true q] at sE
   rw [if_pos q] at hP
   subst hP
   clear q
   repeat' (first | (show z3 ..; first | (refine Qr rfl ?_; try intro _ hK; try simp only [go_sem, *])) | (show Hold ..; first | refine Qh rfl ?_ | (refine z7 rfl ⟨_, rfl, fun hb => ?_, fun hb => ?_⟩ <;> (have hc := hb; try simp only [go_sem] at hc)) | refine z8 rfl ?_) | (show q7 ..; first | (refine x8 [1] [] (sE) (by simp) ?_ ?_ (by simp) (.inl rfl) ?_ ?_ ?_; (focus (simp only [go_sem, *]; done)); (focus (simp only [go_sem, *]; done)); (focus (first | (simp; done) | (simp [go_sem]; done))); (focus (first | (simp; done) | (simp [go_sem]; done))); simp only [go_sem, *])) | ((with_reducible refine And.intro ?_ ?_); focus omega) | (refine z6 hK ?_; clear hK; simp only [go_sem, *]) | (simp only [z5, z4, go_sem, *]))
   all_goals try contradiction
   refine ⟨[_], [some 0, some 1], [], ⟨rfl, trivial⟩, ?_⟩
   simp only [go_sem, *]
  ·rw [decide_eq_false q] at sE
   rw [if_neg q] at hP
   clear q
   repeat' (first | (show z3 ..; first | (refine Qr rfl ?_; try intro _ hK; try simp only [go_sem, *])) | (show Hold ..; first | refine Qh rfl ?_ | (refine z7 rfl ⟨_, rfl, fun hb => ?_, fun hb => ?_⟩ <;> (have hc := hb; try simp only [go_sem] at hc)) | refine z8 rfl ?_) | (show q7 ..; first | (refine x8 [1] [] (sE) (by simp) ?_ ?_ (by simp) (.inl rfl) ?_ ?_ ?_; (focus (simp only [go_sem, *]; done)); (focus (simp only [go_sem, *]; done)); (focus (first | (simp; done) | (simp [go_sem]; done))); (focus (first | (simp; done) | (simp [go_sem]; done))); simp only [go_sem, *])) | ((with_reducible refine And.intro ?_ ?_); focus omega) | (refine z6 hK ?_; clear hK; simp only [go_sem, *]) | (simp only [z5, z4, go_sem, *]))
   all_goals try contradiction
   refine ⟨_, (by omega), [some 0, some 1], [], _, _, _, (by (simp only [Weak, go_sem, List.map_append, List.map_set, *] <;> (try simp (disch := omega) only [q9]) <;> (try simp) <;> (try omega))), i + 1, rfl, (by omega), (by exact hP), rfl, rfl, rfl⟩
 ·have hi3 : ¬ (i : Int) < l.length := by omega
  rw [v4 (by omega), zO7] at hP
  subst hP
  repeat' (first | (show z3 ..; first | (refine Qr rfl ?_; try intro _ hK; try simp only [go_sem, *])) | (show Hold ..; first | refine Qh rfl ?_ | (refine z7 rfl ⟨_, rfl, fun hb => ?_, fun hb => ?_⟩ <;> (have hc := hb; try simp only [go_sem] at hc)) | refine z8 rfl ?_) | ((with_reducible refine And.intro ?_ ?_); focus omega) | (refine z6 hK ?_; clear hK; simp only [go_sem, *]) | (simp only [z5, z4, go_sem, *]))
  all_goals try contradiction
  refine ⟨[_], [some 0, some 1], [], ⟨rfl, trivial⟩, ?_⟩
  simp only [go_sem, *]
theorem zOJ (p : zLI) (l : List zLI) (t : Truth) (hl : l.length ≤ 1000) (h1 : ∀ q, q ∈ l → q.length ≤ 4294967296) (h2 : ∀ q, q ∈ l → ∀ x, x ∈ q → x.length ≤ 4294967296) :
  zLJ prog 109 [.own 0 1 0 l.length, .fn 110 [.ptr 1 0]] [.row 1 (l.map y5), zPD p t] (bV (decide (t.fin ∈ l))) [.row 1 (l.map y5), zPD p t] := by
 have sI := zOQ p l t hl h1 h2
 rw [← zNT t.fin l 0]
 generalize zO7 l t.fin 0 = k at *
 refine y3 func109 rfl (fun E hE => ?_); simp only [go_sem, ntmps109]
 repeat' (first | (show z3 ..; first | (refine Qr rfl ?_; try intro _ hK; try simp only [go_sem, *])) | (show Hold ..; first | refine Qh rfl ?_ | (refine z7 rfl ⟨_, rfl, fun hb => ?_, fun hb => ?_⟩ <;> (have hc := hb; try simp only [go_sem] at hc)) | refine z8 rfl ?_) | (show q7 ..; first | (refine x8 [0, 1] [] (sI) (by simp) ?_ ?_ (by simp) (.inl rfl) ?_ ?_ ?_; (focus (simp only [go_sem, *]; done)); (focus (simp only [go_sem, *]; done)); (focus (first | (simp; done) | (simp [go_sem]; done))); (focus (first | (simp; done) | (simp [go_sem]; done))); simp only [go_sem, *])) | ((with_reducible refine And.intro ?_ ?_); focus omega) | (refine z6 hK ?_; clear hK; simp only [go_sem, *]) | (simp only [z5, z4, go_sem, *]))
 all_goals try contradiction
 all_goals refine ⟨[_], [some 0, some 1], [], ⟨rfl, trivial⟩, ?_⟩
 all_goals simp only [go_sem, *]
theorem zOM (s : Story) (hb : Bound 1048576 s) : zLJ prog 54 [s.enc] [] (.tup [.list ((zMg s).map y5), iV (r4 s)]) [] := by
 unfold zMg
 by_cases e : r4 s = 0
 ·have o := F1 e
  have sa := zAN s e
  have hl := K3 o.steps (fun w hw => (o.ways w hw).2.1)
  have hok := zCs o.first
  rw [if_pos e]
  rw [e]
  have h0 : zMZ ((t8 s).drop 0) [] = zMZ (t8 s) [] := rfl
  have hv : ∀ t, t ∈ t8 s → Valid t.fin := fun t ht => (hok t ht).val
  clear e hb hok
  generalize zMZ (t8 s) [] = R at *
  generalize t8 s = L at *
  refine y3 func54 rfl (fun E hE => ?_); simp only [go_sem, ntmps54]
  repeat' (first | (show z3 ..; first | (refine Qr rfl ?_; try intro _ hK; try simp only [go_sem, *])) | (show Hold ..; first | refine Qh rfl ?_ | (refine z7 rfl ⟨_, rfl, fun hb => ?_, fun hb => ?_⟩ <;> (have hc := hb; try simp only [go_sem] at hc)) | refine z8 rfl ?_) | (show q7 ..; first | (refine v5 (sa) ?_ ?_ ?_ ?_; (focus (simp only [go_sem, *]; done)); (focus (first | (simp; done) | (simp [go_sem]; done))); (focus (first | (simp; done) | (simp [go_sem]; done))); simp only [go_sem, *])) | ((with_reducible refine And.intro ?_ ?_); focus omega) | (refine z6 hK ?_; clear hK; simp only [go_sem, *]) | (simp only [z5, z4, go_sem, *]))
  all_goals try contradiction
  refine y8 rfl (fun zn zN zenv zAs => ∃ (i : Nat) (acc : List zLI), zn = (L.length) - i ∧ i ≤ (L.length) ∧ (zMZ (L.drop i) acc = R ∧ acc.length ≤ i ∧ ∀ q, q ∈ acc → q.length ≤ 3 ∧ ∀ l, l ∈ q → l.length ≤ 8) ∧ zN = 37 ∧ zenv = [(21, iV i), (20, iV L.length), (19, .list (L.map (Truth.enc s.first))), (7, .own 0 1 0 acc.length)] ∧ zAs = [.row 1 (acc.map y5)]) (L.length) ⟨[none], [], _, _, _, (by (simp only [Weak, go_sem, List.map_append, List.map_set, *] <;> (try simp (disch := omega) only [q9]) <;> (try simp) <;> (try omega))), 0, [], (by simp), (by simp), (by exact ⟨h0, by simp, fun q hq => by cases hq⟩), rfl, rfl, rfl⟩ ?_; rintro _ _ _ _ ⟨i, acc, rfl, hi, hP, rfl, rfl, rfl⟩
  clear h0
  obtain ⟨hP, hal, hac⟩ := hP
  by_cases hi : i < L.length
  ·have hi3 : (i : Int) < L.length := by omega
   have v := hv _ (w6 hi)
   have hy := zNI (acc := acc) hi
   have hn := zNH (acc := acc) hi
   have hfl : (L.getD i default).fin.length ≤ 3 ∧ ∀ l, l ∈ (L.getD i default).fin → l.length ≤ 8 := ⟨v.len, fun l hl => (v.rows l hl).len⟩
   have sF := zOJ s.first acc (L.getD i default) (by omega) (fun q hq => by have := (hac q hq).1; omega) (fun q hq x hx => by have := (hac q hq).2 x hx; omega)
   have sc := zG7 (L.getD i default).fin v
   clear hv v
   by_cases q : (L.getD i default).fin ∈ acc
   ·rw [hy q] at hP
    rw [decide_eq_true q] at sF
    clear q hy hn
    repeat' (first | (show z3 ..; first | (refine Qr rfl ?_; try intro _ hK; try simp only [go_sem, *])) | (show Hold ..; first | refine Qh rfl ?_ | (refine z7 rfl ⟨_, rfl, fun hb => ?_, fun hb => ?_⟩ <;> (have hc := hb; try simp only [go_sem] at hc)) | refine z8 rfl ?_) | (show q7 ..; first | (refine x8 [0, 1] [] (sF) (by simp) ?_ ?_ (by simp) (.inl rfl) ?_ ?_ ?_; (focus (simp only [go_sem, *]; done)); (focus (simp only [go_sem, *]; done)); (focus (first | (simp; done) | (simp [go_sem]; done))); (focus (first | (simp; done) | (simp [go_sem]; done))); simp only [go_sem, *]) | (refine q8 (sc) ?_ ?_; (focus (simp only [go_sem, *]; done)); simp only [go_sem, *])) | ((with_reducible refine And.intro ?_ ?_); focus omega) | (refine z6 hK ?_; clear hK; simp only [go_sem, *]) | (simp only [z5, z4, go_sem, *]))
    all_goals try contradiction
    refine ⟨_, (by omega), [some 0], [], _, _, _, (by (simp only [Weak, go_sem, List.map_append, List.map_set, *] <;> (try simp (disch := omega) only [q9]) <;> (try simp) <;> (try omega))), i + 1, acc, rfl, (by omega), (by exact ⟨hP, by omega, hac⟩), rfl, rfl, rfl⟩
   ·rw [hn q] at hP
    rw [decide_eq_false q] at sF
    clear q hy hn
    repeat' (first | (show z3 ..; first | (refine Qr rfl ?_; try intro _ hK; try simp only [go_sem, *])) | (show Hold ..; first | refine Qh rfl ?_ | (refine z7 rfl ⟨_, rfl, fun hb => ?_, fun hb => ?_⟩ <;> (have hc := hb; try simp only [go_sem] at hc)) | refine z8 rfl ?_) | (with_reducible (show (∀ _ : AV, _ → _) ∧ _); refine And.intro ?_ ?_; (focus (intro y hy; first | (obtain ⟨z, _, rfl⟩ := List.mem_map.1 (hy); simp [go_sem]; done) | (obtain ⟨z, _, rfl⟩ := List.mem_map.1 (List.mem_of_mem_take hy); simp [go_sem]; done) | (obtain ⟨z, _, rfl⟩ := List.mem_map.1 (List.mem_of_mem_drop hy); simp [go_sem]; done) | (obtain ⟨z, _, rfl⟩ := List.mem_map.1 (List.mem_of_mem_drop (List.mem_of_mem_take hy)); simp [go_sem]; done)))) | (show q7 ..; first | (refine x8 [0, 1] [] (sF) (by simp) ?_ ?_ (by simp) (.inl rfl) ?_ ?_ ?_; (focus (simp only [go_sem, *]; done)); (focus (simp only [go_sem, *]; done)); (focus (first | (simp; done) | (simp [go_sem]; done))); (focus (first | (simp; done) | (simp [go_sem]; done))); simp only [go_sem, *]) | (refine q8 (sc) ?_ ?_; (focus (simp only [go_sem, *]; done)); simp only [go_sem, *])) | ((with_reducible refine And.intro ?_ ?_); focus omega) | (refine z6 hK ?_; clear hK; simp only [go_sem, *]) | (simp only [z5, z4, go_sem, *]))
    all_goals try contradiction
    refine ⟨_, (by omega), [some 3], [], _, _, _, (by (simp only [Weak, go_sem, List.map_append, List.map_set, *] <;> (try simp (disch := omega) only [q9]) <;> (try simp) <;> (try omega))), i + 1, acc ++ [(L.getD i default).fin], rfl, (by omega), (by exact ⟨hP, by simp; omega, fun q hq => by
     rcases List.mem_append.1 hq with hq | hq
     ·exact hac q hq
     ·rw [List.mem_singleton.1 hq]; exact hfl⟩), rfl, rfl, rfl⟩
  ·have hi3 : ¬ (i : Int) < L.length := by omega
   rw [v4 (by omega), zMZ] at hP
   subst hP
   clear hv hac
   repeat' (first | (show z3 ..; first | (refine Qr rfl ?_; try intro _ hK; try simp only [go_sem, *])) | (show Hold ..; first | refine Qh rfl ?_ | (refine z7 rfl ⟨_, rfl, fun hb => ?_, fun hb => ?_⟩ <;> (have hc := hb; try simp only [go_sem] at hc)) | refine z8 rfl ?_) | ((with_reducible refine And.intro ?_ ?_); focus omega) | (refine z6 hK ?_; clear hK; simp only [go_sem, *]) | (simp only [z5, z4, go_sem, *]))
   all_goals try contradiction
   refine ⟨[_, _], [], [0], ⟨rfl, rfl, trivial⟩, ?_⟩
   simp only [go_sem, *]
 ·have sa := zK5 s (by have := hb.steps; omega) (fun w hw => by have := hb.ways w hw; omega) (by have := hb.facts; omega) (by have := hb.first.len; omega) e
  rw [if_neg e]
  have e2 : (r4 s != 0) = true := by simpa using e
  clear e
  generalize r4 s = k at *
  refine y3 func54 rfl (fun E hE => ?_); simp only [go_sem, ntmps54]
  repeat' (first | (show z3 ..; first | (refine Qr rfl ?_; try intro _ hK; try simp only [go_sem, *])) | (show Hold ..; first | refine Qh rfl ?_ | (refine z7 rfl ⟨_, rfl, fun hb => ?_, fun hb => ?_⟩ <;> (have hc := hb; try simp only [go_sem] at hc)) | refine z8 rfl ?_) | (show q7 ..; first | (refine q8 (sa) ?_ ?_; (focus (simp only [go_sem, *]; done)); simp only [go_sem, *])) | ((with_reducible refine And.intro ?_ ?_); focus omega) | (refine z6 hK ?_; clear hK; simp only [go_sem, *]) | (simp only [z5, z4, go_sem, *]))
  all_goals try contradiction
  (refine ⟨[_, _], [], [], ⟨rfl, rfl, trivial⟩, ?_⟩; simp only [go_sem, *])
theorem zOO (a b : List zLI) (h1 : a.length ≤ 4294967296) (h2 : ∀ p, p ∈ a → p.length ≤ 4294967296 ∧ ∀ l, l ∈ p → l.length ≤ 4294967296) : zLJ prog 56 [.list (a.map y5), .list (b.map y5)] [] (bV (decide (a = b))) [] := by
 refine y3 func56 rfl (fun E hE => ?_); simp only [go_sem, ntmps56]
 repeat' (first | (show z3 ..; first | (refine Qr rfl ?_; try intro _ hK; try simp only [go_sem, *])) | (show Hold ..; first | refine Qh rfl ?_ | refine q6 rfl mixed (by kernel_rfl) ?_ | (refine z7 rfl ⟨_, rfl, fun hb => ?_, fun hb => ?_⟩ <;> (have hc := hb; try simp only [go_sem] at hc)) | refine z8 rfl ?_) | (refine Qb ?_ ?_; focus kernel_rfl) | ((with_reducible refine And.intro ?_ ?_); focus omega) | (refine z6 hK ?_; clear hK; simp only [go_sem, *]) | (simp only [z5, z4, go_sem, *]))
 ·(refine ⟨[_], [], [], ⟨rfl, trivial⟩, ?_⟩; simp only [go_sem, *])
  simp [Q2 (a := a) (b := b) (by assumption)]
 ·have hlb : a.length = b.length := by assumption
  refine y8 rfl (fun zn zN zenv zAs => ∃ (i : Nat), zn = (b.length) - i ∧ i ≤ (b.length) ∧ (a.take i = b.take i) ∧ zN = 27 ∧ zenv = [(5, iV i), (1, .list (b.map y5)), (0, .list (a.map y5))] ∧ zAs = []) (b.length) ⟨[], [], _, _, _, (by (simp only [Weak, go_sem, List.map_append, List.map_set, *] <;> (try simp (disch := omega) only [q9]) <;> (try simp) <;> (try omega))), 0, (by simp), (by simp), (by simp), rfl, rfl, rfl⟩ ?_; rintro _ _ _ _ ⟨i, rfl, hi, hP, rfl, rfl, rfl⟩
  by_cases hi : i < b.length
  ·have hi3 : (i : Int) < a.length := by omega
   have hi4 : (i : Int) < b.length := by omega
   have hia : i < a.length := by omega
   have hq := h2 _ (w6 hia)
   have sE := zGr (a.getD i default) (b.getD i default) hq.1 hq.2
   by_cases q : a.getD i default = b.getD i default
   ·rw [decide_eq_true q] at sE
    have hP2 := Y1 hia hi hP q
    clear q hP h2 hq
    repeat' (first | (show z3 ..; first | (refine Qr rfl ?_; try intro _ hK; try simp only [go_sem, *])) | (show Hold ..; first | refine Qh rfl ?_ | refine q6 rfl mixed (by kernel_rfl) ?_ | (refine z7 rfl ⟨_, rfl, fun hb => ?_, fun hb => ?_⟩ <;> (have hc := hb; try simp only [go_sem] at hc)) | refine z8 rfl ?_) | (refine Qb ?_ ?_; focus kernel_rfl) | (show q7 ..; first | (refine q8 (sE) ?_ ?_; (focus (simp only [go_sem, *]; done)); simp only [go_sem, *])) | ((with_reducible refine And.intro ?_ ?_); focus omega) | (refine z6 hK ?_; clear hK; simp only [go_sem, *]) | (simp only [z5, z4, go_sem, *]))
    all_goals first | contradiction | omega | skip
    refine ⟨_, (by omega), [], [], _, _, _, (by (simp only [Weak, go_sem, List.map_append, List.map_set, *] <;> (try simp (disch := omega) only [q9]) <;> (try simp) <;> (try omega))), i + 1, rfl, (by omega), (by exact hP2), rfl, rfl, rfl⟩
   ·rw [decide_eq_false q] at sE
    have hn : decide (a = b) = false := decide_eq_false (Y2 q)
    clear q hP h2 hq
    rw [hn]
    repeat' (first | (show z3 ..; first | (refine Qr rfl ?_; try intro _ hK; try simp only [go_sem, *])) | (show Hold ..; first | refine Qh rfl ?_ | refine q6 rfl mixed (by kernel_rfl) ?_ | (refine z7 rfl ⟨_, rfl, fun hb => ?_, fun hb => ?_⟩ <;> (have hc := hb; try simp only [go_sem] at hc)) | refine z8 rfl ?_) | (refine Qb ?_ ?_; focus kernel_rfl) | (show q7 ..; first | (refine q8 (sE) ?_ ?_; (focus (simp only [go_sem, *]; done)); simp only [go_sem, *])) | ((with_reducible refine And.intro ?_ ?_); focus omega) | (refine z6 hK ?_; clear hK; simp only [go_sem, *]) | (simp only [z5, z4, go_sem, *]))
    all_goals first | contradiction | omega | skip
    (refine ⟨[_], [], [], ⟨rfl, trivial⟩, ?_⟩; simp only [go_sem, *])
  ·have hi3 : ¬ (i : Int) < a.length := by omega
   have hi4 : ¬ (i : Int) < b.length := by omega
   have hn : decide (a = b) = true := decide_eq_true (Y0 (by omega) hlb hP)
   rw [hn]
   clear hP h2
   repeat' (first | (show z3 ..; first | (refine Qr rfl ?_; try intro _ hK; try simp only [go_sem, *])) | (show Hold ..; first | refine Qh rfl ?_ | refine q6 rfl mixed (by kernel_rfl) ?_ | (refine z7 rfl ⟨_, rfl, fun hb => ?_, fun hb => ?_⟩ <;> (have hc := hb; try simp only [go_sem] at hc)) | refine z8 rfl ?_) | (refine Qb ?_ ?_; focus kernel_rfl) | ((with_reducible refine And.intro ?_ ?_); focus omega) | (refine z6 hK ?_; clear hK; simp only [go_sem, *]) | (simp only [z5, z4, go_sem, *]))
   all_goals first | contradiction | omega | skip
   (refine ⟨[_], [], [], ⟨rfl, trivial⟩, ?_⟩; simp only [go_sem, *])
theorem zOP (s : Story) (h1 : s.first.length ≤ 4294967296) (h2 : ∀ l, l ∈ s.first → l.length ≤ 4294967296) (h3 : ∀ w, w ∈ s.steps → w.length ≤ 4294967296) (h4 : s.steps.length ≤ 4294967296) (h5 : s.facts.length ≤ 4294967296) : zLJ prog 57 [s.enc, s.enc] [] (bV true) [] := by
 have sE := zGr s.first s.first h1 h2
 rw [decide_eq_true rfl] at sE
 have n1 : ((s.steps.length : Int) != (s.steps.length : Int)) = false := by simp
 have n2 : ((s.facts.length : Int) != (s.facts.length : Int)) = false := by simp
 refine y3 func57 rfl (fun E hE => ?_); simp only [go_sem, ntmps57]
 repeat' (first | (show z3 ..; first | (refine Qr rfl ?_; try intro _ hK; try simp only [go_sem, *]) | (refine Qi rfl rfl rfl rfl (fun hb _ hK => ?_) (fun hb => ?_) <;> (have hc := hb; try simp only [go_sem] at hc; simp only [go_sem, *]))) | (show Hold ..; first | refine Qh rfl ?_ | refine q6 rfl mixed (by kernel_rfl) ?_ | (refine z7 rfl ⟨_, rfl, fun hb => ?_, fun hb => ?_⟩ <;> (have hc := hb; try simp only [go_sem] at hc)) | refine z8 rfl ?_) | (refine Qb ?_ ?_; focus kernel_rfl) | (show q7 ..; first | (refine q8 (sE) ?_ ?_; (focus (simp only [go_sem, *]; done)); simp only [go_sem, *])) | ((with_reducible refine And.intro ?_ ?_); focus omega) | (refine z6 hK ?_; clear hK; simp only [go_sem, *]) | (simp only [z5, z4, go_sem, *]))
 all_goals try contradiction
 clear sE
 refine y8 rfl (fun zn zN zenv zAs => ∃ (i : Nat), zn = (s.steps.length) - i ∧ i ≤ (s.steps.length) ∧ (NoP i) ∧ zN = 70 ∧ zenv = [(5, iV i), (3, .ptr 1 0), (2, .ptr 0 0)] ∧ zAs = [zMd s, zMd s]) (s.steps.length) ⟨[some 0, some 1], [], _, _, _, (by (simp only [Weak, go_sem, List.map_append, List.map_set, *] <;> (try simp (disch := omega) only [q9]) <;> (try simp) <;> (try omega))), 0, (by simp), (by simp), (by trivial), rfl, rfl, rfl⟩ ?_; rintro _ _ _ _ ⟨i, rfl, hi, hP, rfl, rfl, rfl⟩
 by_cases hi : i < s.steps.length
 ·have hi3 : (i : Int) < s.steps.length := by omega
  have sC := zGn (s.steps.getD i default) (s.steps.getD i default) (h3 _ (w6 hi))
  rw [decide_eq_true rfl] at sC
  repeat' (first | (show z3 ..; first | (refine Qr rfl ?_; try intro _ hK; try simp only [go_sem, *]) | (refine Qi rfl rfl rfl rfl (fun hb _ hK => ?_) (fun hb => ?_) <;> (have hc := hb; try simp only [go_sem] at hc; simp only [go_sem, *]))) | (show Hold ..; first | refine Qh rfl ?_ | refine q6 rfl mixed (by kernel_rfl) ?_ | (refine z7 rfl ⟨_, rfl, fun hb => ?_, fun hb => ?_⟩ <;> (have hc := hb; try simp only [go_sem] at hc)) | refine z8 rfl ?_) | (refine Qb ?_ ?_; focus kernel_rfl) | (show q7 ..; first | (refine q8 (sC) ?_ ?_; (focus (simp only [go_sem, *]; done)); simp only [go_sem, *])) | ((with_reducible refine And.intro ?_ ?_); focus omega) | (refine z6 hK ?_; clear hK; simp only [go_sem, *]) | (simp only [z5, z4, go_sem, *]))
  all_goals try contradiction
  refine ⟨_, (by omega), [some 0, some 1], [], _, _, _, (by (simp only [Weak, go_sem, List.map_append, List.map_set, *] <;> (try simp (disch := omega) only [q9]) <;> (try simp) <;> (try omega))), i + 1, rfl, (by omega), (by trivial), rfl, rfl, rfl⟩
 ·have hi3 : ¬ (i : Int) < s.steps.length := by omega
  repeat' (first | (show z3 ..; first | (refine Qr rfl ?_; try intro _ hK; try simp only [go_sem, *]) | (refine Qi rfl rfl rfl rfl (fun hb _ hK => ?_) (fun hb => ?_) <;> (have hc := hb; try simp only [go_sem] at hc; simp only [go_sem, *]))) | (show Hold ..; first | refine Qh rfl ?_ | refine q6 rfl mixed (by kernel_rfl) ?_ | (refine z7 rfl ⟨_, rfl, fun hb => ?_, fun hb => ?_⟩ <;> (have hc := hb; try simp only [go_sem] at hc)) | refine z8 rfl ?_) | (refine Qb ?_ ?_; focus kernel_rfl) | ((with_reducible refine And.intro ?_ ?_); focus omega) | (refine z6 hK ?_; clear hK; simp only [go_sem, *]) | (simp only [z5, z4, go_sem, *]))
  all_goals try contradiction
  refine y8 rfl (fun zn zN zenv zAs => ∃ (k : Nat), zn = (s.facts.length) - k ∧ k ≤ (s.facts.length) ∧ (NoP k) ∧ zN = 70 ∧ zenv = [(6, iV k), (3, .ptr 1 0), (2, .ptr 0 0)] ∧ zAs = [zMd s, zMd s]) (s.facts.length) ⟨[some 0, some 1], [], _, _, _, (by (simp only [Weak, go_sem, List.map_append, List.map_set, *] <;> (try simp (disch := omega) only [q9]) <;> (try simp) <;> (try omega))), 0, (by simp), (by simp), (by trivial), rfl, rfl, rfl⟩ ?_; rintro _ _ _ _ ⟨k, rfl, hk, hQ, rfl, rfl, rfl⟩
  by_cases hk : k < s.facts.length
  ·have hk3 : (k : Int) < s.facts.length := by omega
   repeat' (first | (show z3 ..; first | (refine Qr rfl ?_; try intro _ hK; try simp only [go_sem, *]) | (refine Qi rfl rfl rfl rfl (fun hb _ hK => ?_) (fun hb => ?_) <;> (have hc := hb; try simp only [go_sem] at hc; simp only [go_sem, *]))) | (show Hold ..; first | refine Qh rfl ?_ | refine q6 rfl mixed (by kernel_rfl) ?_ | (refine z7 rfl ⟨_, rfl, fun hb => ?_, fun hb => ?_⟩ <;> (have hc := hb; try simp only [go_sem] at hc)) | refine z8 rfl ?_) | (refine Qb ?_ ?_; focus kernel_rfl) | ((with_reducible refine And.intro ?_ ?_); focus omega) | (refine z6 hK ?_; clear hK; simp only [go_sem, *]) | (simp only [z5, z4, go_sem, *]))
   all_goals try contradiction
   refine ⟨_, (by omega), [some 0, some 1], [], _, _, _, (by (simp only [Weak, go_sem, List.map_append, List.map_set, *] <;> (try simp (disch := omega) only [q9]) <;> (try simp) <;> (try omega))), k + 1, rfl, (by omega), (by trivial), rfl, rfl, rfl⟩
  ·have hk3 : ¬ (k : Int) < s.facts.length := by omega
   repeat' (first | (show z3 ..; first | (refine Qr rfl ?_; try intro _ hK; try simp only [go_sem, *]) | (refine Qi rfl rfl rfl rfl (fun hb _ hK => ?_) (fun hb => ?_) <;> (have hc := hb; try simp only [go_sem] at hc; simp only [go_sem, *]))) | (show Hold ..; first | refine Qh rfl ?_ | refine q6 rfl mixed (by kernel_rfl) ?_ | (refine z7 rfl ⟨_, rfl, fun hb => ?_, fun hb => ?_⟩ <;> (have hc := hb; try simp only [go_sem] at hc)) | refine z8 rfl ?_) | (refine Qb ?_ ?_; focus kernel_rfl) | ((with_reducible refine And.intro ?_ ?_); focus omega) | (refine z6 hK ?_; clear hK; simp only [go_sem, *]) | (simp only [z5, z4, go_sem, *]))
   all_goals try contradiction
   (refine ⟨[_], [], [], ⟨rfl, trivial⟩, ?_⟩; simp only [go_sem, *])
end Go.Abs

namespace Go.Abs
open Go Go.Proofs Tryz
attribute [local irreducible] z3 Hold q7
theorem zOK (s : Story) (h1 : s.first.length ≤ 1048576) (h2 : ∀ l, l ∈ s.first → l.length ≤ 1048576) (h3 : ∀ w, w ∈ s.steps → w.length ≤ 1048576) (h4 : s.steps.length ≤ 1048576) (h5 : s.facts.length ≤ 1048576) : zLJ prog 52 [s.enc] [] s.enc [] := by
 have sU := zK1 s.first h1 h2
 refine y3 func52 rfl (fun E hE => ?_); simp only [go_sem, ntmps52]
 repeat' (first | (show z3 ..; first | (refine Qr rfl ?_; try intro _ hK; try simp only [go_sem, *])) | (show Hold ..; first | refine Qh rfl ?_ | refine q6 rfl mixed (by kernel_rfl) ?_ | (refine z7 rfl ⟨_, rfl, fun hb => ?_, fun hb => ?_⟩ <;> (have hc := hb; try simp only [go_sem] at hc)) | refine z8 rfl ?_) | (with_reducible (show (∀ _ : AV, _ → _) ∧ _); refine And.intro ?_ ?_; (focus (intro y hy; first | (obtain ⟨z, _, rfl⟩ := List.mem_map.1 (hy); simp [go_sem]; done) | (obtain ⟨z, _, rfl⟩ := List.mem_map.1 (List.mem_of_mem_take hy); simp [go_sem]; done) | (obtain ⟨z, _, rfl⟩ := List.mem_map.1 (List.mem_of_mem_drop hy); simp [go_sem]; done) | (obtain ⟨z, _, rfl⟩ := List.mem_map.1 (List.mem_of_mem_drop (List.mem_of_mem_take hy)); simp [go_sem]; done)))) | (refine Qb ?_ ?_; focus kernel_rfl) | (show q7 ..; first | (refine q8 (sU) ?_ ?_; (focus (simp only [go_sem, *]; done)); simp only [go_sem, *])) | ((with_reducible refine And.intro ?_ ?_); focus omega) | (refine z6 hK ?_; clear hK; simp only [go_sem, *]) | (simp only [z5, z4, go_sem, *]))
 all_goals try contradiction
 clear sU
 refine y8 rfl (fun zn zN zenv zAs => ∃ (i : Nat), zn = (s.steps.length) - i ∧ i ≤ (s.steps.length) ∧ (NoP i) ∧ zN = 35 ∧ zenv = [(4, iV i), (3, .ptr 2 0), (2, .ptr 1 0), (1, .ptr 0 0)] ∧ zAs = [zMd s, .box [zLb, zLb, zLb], .box [.list (s.first.map y6), .own 3 1 0 i, .list (s.facts.map Fact.enc)], .row 1 ((s.steps.take i).map Z8)]) (s.steps.length) ⟨[some 0, some 1, some 4, none], [3], _, _, _, (by (simp only [Weak, go_sem, List.map_append, List.map_set, *] <;> (try simp (disch := omega) only [q9]) <;> (try simp) <;> (try omega))), 0, (by simp), (by simp), (by trivial), rfl, rfl, rfl⟩ ?_; rintro _ _ _ _ ⟨i, rfl, hi, hP, rfl, rfl, rfl⟩
 by_cases hi : i < s.steps.length
 ·have hi3 : (i : Int) < s.steps.length := by omega
  have hw := h3 _ (w6 hi)
  have e := j0 (l := s.steps) (i := i) hi
  repeat' (first | (show z3 ..; first | (refine Qr rfl ?_; try intro _ hK; try simp only [go_sem, *])) | (show Hold ..; first | refine Qh rfl ?_ | refine q6 rfl mixed (by kernel_rfl) ?_ | (refine z7 rfl ⟨_, rfl, fun hb => ?_, fun hb => ?_⟩ <;> (have hc := hb; try simp only [go_sem] at hc)) | refine z8 rfl ?_) | (with_reducible (show (∀ _ : AV, _ → _) ∧ _); refine And.intro ?_ ?_; (focus (intro y hy; first | (obtain ⟨z, _, rfl⟩ := List.mem_map.1 (hy); simp [go_sem]; done) | (obtain ⟨z, _, rfl⟩ := List.mem_map.1 (List.mem_of_mem_take hy); simp [go_sem]; done) | (obtain ⟨z, _, rfl⟩ := List.mem_map.1 (List.mem_of_mem_drop hy); simp [go_sem]; done) | (obtain ⟨z, _, rfl⟩ := List.mem_map.1 (List.mem_of_mem_drop (List.mem_of_mem_take hy)); simp [go_sem]; done)))) | (refine Qb ?_ ?_; focus kernel_rfl) | ((with_reducible refine And.intro ?_ ?_); focus omega) | (refine z6 hK ?_; clear hK; simp only [go_sem, *]) | (simp only [z5, z4, go_sem, *]))
  all_goals try contradiction
  refine ⟨_, (by omega), [some 0, some 1, some 2, some 7], [], _, _, _, (by (simp only [Weak, go_sem, List.map_append, List.map_set, *] <;> (try simp (disch := omega) only [q9]) <;> (try simp) <;> (try omega))), i + 1, rfl, (by omega), (by trivial), rfl, rfl, rfl⟩
 ·have hi3 : ¬ (i : Int) < s.steps.length := by omega
  have e : s.steps.take i = s.steps := List.take_of_length_le (by omega)
  repeat' (first | (show z3 ..; first | (refine Qr rfl ?_; try intro _ hK; try simp only [go_sem, *])) | (show Hold ..; first | refine Qh rfl ?_ | refine q6 rfl mixed (by kernel_rfl) ?_ | (refine z7 rfl ⟨_, rfl, fun hb => ?_, fun hb => ?_⟩ <;> (have hc := hb; try simp only [go_sem] at hc)) | refine z8 rfl ?_) | (refine Qb ?_ ?_; focus kernel_rfl) | ((with_reducible refine And.intro ?_ ?_); focus omega) | (refine z6 hK ?_; clear hK; simp only [go_sem, *]) | (simp only [z5, z4, go_sem, *]))
  all_goals try contradiction
  refine ⟨[.agg [.list (s.first.map y6), .own 3 1 0 i, .list (s.facts.map Fact.enc)]], [], [3], ⟨by simp only [x9, go_sem], trivial⟩, ?_⟩
  simp only [go_sem, *]
  exact (List.take_of_length_le (by simp; omega)).symm
theorem zOL (s : Story) (h1 : s.first.length ≤ 1048576) (h2 : ∀ l, l ∈ s.first → l.length ≤ 1048576) (h3 : ∀ w, w ∈ s.steps → w.length ≤ 1048576) (h4 : s.steps.length ≤ 1048576) (h5 : s.facts.length ≤ 1048576) : zLJ prog 52 [s.enc] [] (.agg [.list (s.first.map y6), .list (s.steps.map Z8), .own 0 6 0 s.facts.length]) [.row 6 (s.facts.map Fact.enc)] := by
 have sU := zK1 s.first h1 h2
 refine y3 func52 rfl (fun E hE => ?_); simp only [go_sem, ntmps52]
 repeat' (first | (show z3 ..; first | (refine Qr rfl ?_; try intro _ hK; try simp only [go_sem, *])) | (show Hold ..; first | refine Qh rfl ?_ | refine q6 rfl mixed (by kernel_rfl) ?_ | (refine z7 rfl ⟨_, rfl, fun hb => ?_, fun hb => ?_⟩ <;> (have hc := hb; try simp only [go_sem] at hc)) | refine z8 rfl ?_) | (with_reducible (show (∀ _ : AV, _ → _) ∧ _); refine And.intro ?_ ?_; (focus (intro y hy; first | (obtain ⟨z, _, rfl⟩ := List.mem_map.1 (hy); simp [go_sem]; done) | (obtain ⟨z, _, rfl⟩ := List.mem_map.1 (List.mem_of_mem_take hy); simp [go_sem]; done) | (obtain ⟨z, _, rfl⟩ := List.mem_map.1 (List.mem_of_mem_drop hy); simp [go_sem]; done) | (obtain ⟨z, _, rfl⟩ := List.mem_map.1 (List.mem_of_mem_drop (List.mem_of_mem_take hy)); simp [go_sem]; done)))) | (refine Qb ?_ ?_; focus kernel_rfl) | (show q7 ..; first | (refine q8 (sU) ?_ ?_; (focus (simp only [go_sem, *]; done)); simp only [go_sem, *])) | ((with_reducible refine And.intro ?_ ?_); focus omega) | (refine z6 hK ?_; clear hK; simp only [go_sem, *]) | (simp only [z5, z4, go_sem, *]))
 all_goals try contradiction
 clear sU
 refine y8 rfl (fun zn zN zenv zAs => ∃ (i : Nat), zn = (s.steps.length) - i ∧ i ≤ (s.steps.length) ∧ (NoP i) ∧ zN = 35 ∧ zenv = [(4, iV i), (3, .ptr 2 0), (2, .ptr 1 0), (1, .ptr 0 0)] ∧ zAs = [zMd s, .box [zLb, zLb, zLb], .box [.list (s.first.map y6), .own 3 1 0 i, .own 4 6 0 s.facts.length], .row 1 ((s.steps.take i).map Z8), .row 6 (s.facts.map Fact.enc)]) (s.steps.length) ⟨[some 0, some 1, some 4, none, some 3], [], _, _, _, (by (simp only [Weak, go_sem, List.map_append, List.map_set, *] <;> (try simp (disch := omega) only [q9]) <;> (try simp) <;> (try omega))), 0, (by simp), (by simp), (by trivial), rfl, rfl, rfl⟩ ?_; rintro _ _ _ _ ⟨i, rfl, hi, hP, rfl, rfl, rfl⟩
 by_cases hi : i < s.steps.length
 ·have hi3 : (i : Int) < s.steps.length := by omega
  have hw := h3 _ (w6 hi)
  have e := j0 (l := s.steps) (i := i) hi
  repeat' (first | (show z3 ..; first | (refine Qr rfl ?_; try intro _ hK; try simp only [go_sem, *])) | (show Hold ..; first | refine Qh rfl ?_ | refine q6 rfl mixed (by kernel_rfl) ?_ | (refine z7 rfl ⟨_, rfl, fun hb => ?_, fun hb => ?_⟩ <;> (have hc := hb; try simp only [go_sem] at hc)) | refine z8 rfl ?_) | (with_reducible (show (∀ _ : AV, _ → _) ∧ _); refine And.intro ?_ ?_; (focus (intro y hy; first | (obtain ⟨z, _, rfl⟩ := List.mem_map.1 (hy); simp [go_sem]; done) | (obtain ⟨z, _, rfl⟩ := List.mem_map.1 (List.mem_of_mem_take hy); simp [go_sem]; done) | (obtain ⟨z, _, rfl⟩ := List.mem_map.1 (List.mem_of_mem_drop hy); simp [go_sem]; done) | (obtain ⟨z, _, rfl⟩ := List.mem_map.1 (List.mem_of_mem_drop (List.mem_of_mem_take hy)); simp [go_sem]; done)))) | (refine Qb ?_ ?_; focus kernel_rfl) | ((with_reducible refine And.intro ?_ ?_); focus omega) | (refine z6 hK ?_; clear hK; simp only [go_sem, *]) | (simp only [z5, z4, go_sem, *]))
  all_goals try contradiction
  refine ⟨_, (by omega), [some 0, some 1, some 2, some 8, some 4], [], _, _, _, (by (simp only [Weak, go_sem, List.map_append, List.map_set, *] <;> (try simp (disch := omega) only [q9]) <;> (try simp) <;> (try omega))), i + 1, rfl, (by omega), (by trivial), rfl, rfl, rfl⟩
 ·have hi3 : ¬ (i : Int) < s.steps.length := by omega
  have e : s.steps.take i = s.steps := List.take_of_length_le (by omega)
  repeat' (first | (show z3 ..; first | (refine Qr rfl ?_; try intro _ hK; try simp only [go_sem, *])) | (show Hold ..; first | refine Qh rfl ?_ | refine q6 rfl mixed (by kernel_rfl) ?_ | (refine z7 rfl ⟨_, rfl, fun hb => ?_, fun hb => ?_⟩ <;> (have hc := hb; try simp only [go_sem] at hc)) | refine z8 rfl ?_) | (refine Qb ?_ ?_; focus kernel_rfl) | ((with_reducible refine And.intro ?_ ?_); focus omega) | (refine z6 hK ?_; clear hK; simp only [go_sem, *]) | (simp only [z5, z4, go_sem, *]))
  all_goals try contradiction
  refine ⟨[.agg [.list (s.first.map y6), .own 3 1 0 i, .own 4 6 0 s.facts.length]], [some 4], [3], ⟨by simp only [x9, go_sem], trivial⟩, ?_⟩
  simp only [go_sem, *]
  exact (List.take_of_length_le (by simp; omega)).symm
def zMr (s : Story) : Bool := zCx s.first || (decide (20 < s.steps.length) || (decide (20 < s.facts.length) || s.steps.any fun w => decide (20 < w.length)))
theorem zOX (s : Story) (h1 : s.first.length ≤ 4294967296) (b : Bool) (hb : zMr s = b) : zLJ prog 51 [s.enc] [] (bV b) [] := by
 have sW := zK9 s.first h1 (zCx s.first) rfl
 unfold zMr at hb
 cases hw : zCx s.first with
 | true =>
  rw [hw] at sW hb
  rw [Bool.true_or] at hb
  subst hb
  refine y3 func51 rfl (fun E hE => ?_); simp only [go_sem, ntmps51]
  repeat' (first | (show z3 ..; first | (refine Qr rfl ?_; try intro _ hK; try simp only [go_sem, *]) | (refine Qi rfl rfl rfl rfl (fun hb _ hK => ?_) (fun hb => ?_) <;> (have hc := hb; try simp only [go_sem] at hc; simp only [go_sem, *]))) | (show Hold ..; first | refine Qh rfl ?_ | (refine z7 rfl ⟨_, rfl, fun hb => ?_, fun hb => ?_⟩ <;> (have hc := hb; try simp only [go_sem] at hc)) | refine z8 rfl ?_) | (show q7 ..; first | (refine q8 (sW) ?_ ?_; (focus (simp only [go_sem, *]; done)); simp only [go_sem, *])) | ((with_reducible refine And.intro ?_ ?_); focus omega) | (refine z6 hK ?_; clear hK; simp only [go_sem, *]) | (simp only [z5, z4, go_sem, *]))
  all_goals try contradiction
  (refine ⟨[_], [], [], ⟨rfl, trivial⟩, ?_⟩; simp only [go_sem, *])
 | false =>
  rw [hw] at sW hb
  rw [Bool.false_or] at hb
  by_cases q1 : 20 < s.steps.length
  ·have q1' : (s.steps.length : Int) > 20 := by omega
   rw [decide_eq_true q1, Bool.true_or] at hb
   subst hb
   refine y3 func51 rfl (fun E hE => ?_); simp only [go_sem, ntmps51]
   repeat' (first | (show z3 ..; first | (refine Qr rfl ?_; try intro _ hK; try simp only [go_sem, *]) | (refine Qi rfl rfl rfl rfl (fun hb _ hK => ?_) (fun hb => ?_) <;> (have hc := hb; try simp only [go_sem] at hc; simp only [go_sem, *]))) | (show Hold ..; first | refine Qh rfl ?_ | (refine z7 rfl ⟨_, rfl, fun hb => ?_, fun hb => ?_⟩ <;> (have hc := hb; try simp only [go_sem] at hc)) | refine z8 rfl ?_) | (show q7 ..; first | (refine q8 (sW) ?_ ?_; (focus (simp only [go_sem, *]; done)); simp only [go_sem, *])) | ((with_reducible refine And.intro ?_ ?_); focus omega) | (refine z6 hK ?_; clear hK; simp only [go_sem, *]) | (simp only [z5, z4, go_sem, *]))
   all_goals try contradiction
   (refine ⟨[_], [], [], ⟨rfl, trivial⟩, ?_⟩; simp only [go_sem, *])
  ·have q1' : ¬ (s.steps.length : Int) > 20 := by omega
   rw [decide_eq_false q1, Bool.false_or] at hb
   by_cases q2 : 20 < s.facts.length
   ·have q2' : (s.facts.length : Int) > 20 := by omega
    rw [decide_eq_true q2, Bool.true_or] at hb
    subst hb
    refine y3 func51 rfl (fun E hE => ?_); simp only [go_sem, ntmps51]
    repeat' (first | (show z3 ..; first | (refine Qr rfl ?_; try intro _ hK; try simp only [go_sem, *]) | (refine Qi rfl rfl rfl rfl (fun hb _ hK => ?_) (fun hb => ?_) <;> (have hc := hb; try simp only [go_sem] at hc; simp only [go_sem, *]))) | (show Hold ..; first | refine Qh rfl ?_ | (refine z7 rfl ⟨_, rfl, fun hb => ?_, fun hb => ?_⟩ <;> (have hc := hb; try simp only [go_sem] at hc)) | refine z8 rfl ?_) | (show q7 ..; first | (refine q8 (sW) ?_ ?_; (focus (simp only [go_sem, *]; done)); simp only [go_sem, *])) | ((with_reducible refine And.intro ?_ ?_); focus omega) | (refine z6 hK ?_; clear hK; simp only [go_sem, *]) | (simp only [z5, z4, go_sem, *]))
    all_goals try contradiction
    (refine ⟨[_], [], [], ⟨rfl, trivial⟩, ?_⟩; simp only [go_sem, *])
   ·have q2' : ¬ (s.facts.length : Int) > 20 := by omega
    rw [decide_eq_false q2, Bool.false_or] at hb
    have h0 : ((s.steps.drop 0).any fun w => decide (20 < w.length)) = b := hb
    clear hb q1 q2 hw
    refine y3 func51 rfl (fun E hE => ?_); simp only [go_sem, ntmps51]
    repeat' (first | (show z3 ..; first | (refine Qr rfl ?_; try intro _ hK; try simp only [go_sem, *]) | (refine Qi rfl rfl rfl rfl (fun hb _ hK => ?_) (fun hb => ?_) <;> (have hc := hb; try simp only [go_sem] at hc; simp only [go_sem, *]))) | (show Hold ..; first | refine Qh rfl ?_ | (refine z7 rfl ⟨_, rfl, fun hb => ?_, fun hb => ?_⟩ <;> (have hc := hb; try simp only [go_sem] at hc)) | refine z8 rfl ?_) | (show q7 ..; first | (refine q8 (sW) ?_ ?_; (focus (simp only [go_sem, *]; done)); simp only [go_sem, *])) | ((with_reducible refine And.intro ?_ ?_); focus omega) | (refine z6 hK ?_; clear hK; simp only [go_sem, *]) | (simp only [z5, z4, go_sem, *]))
    all_goals try contradiction
    refine y8 rfl (fun zn zN zenv zAs => ∃ (i : Nat), zn = (s.steps.length) - i ∧ i ≤ (s.steps.length) ∧ (((s.steps.drop i).any fun w => decide (20 < w.length)) = b) ∧ zN = 34 ∧ zenv = [(3, iV i), (1, .ptr 0 0)] ∧ zAs = [zMd s]) (s.steps.length) ⟨[some 0], [], _, _, _, (by (simp only [Weak, go_sem, List.map_append, List.map_set, *] <;> (try simp (disch := omega) only [q9]) <;> (try simp) <;> (try omega))), 0, (by simp), (by simp), (by exact h0), rfl, rfl, rfl⟩ ?_; rintro _ _ _ _ ⟨i, rfl, hi, hP, rfl, rfl, rfl⟩
    clear h0
    by_cases hi : i < s.steps.length
    ·have hi3 : (i : Int) < s.steps.length := by omega
     rw [v3 hi, List.any_cons] at hP
     by_cases q : 20 < (s.steps.getD i default).length
     ·have q' : ((s.steps.getD i default).length : Int) > 20 := by omega
      rw [decide_eq_true q, Bool.true_or] at hP
      subst hP
      clear q
      repeat' (first | (show z3 ..; first | (refine Qr rfl ?_; try intro _ hK; try simp only [go_sem, *]) | (refine Qi rfl rfl rfl rfl (fun hb _ hK => ?_) (fun hb => ?_) <;> (have hc := hb; try simp only [go_sem] at hc; simp only [go_sem, *]))) | (show Hold ..; first | refine Qh rfl ?_ | (refine z7 rfl ⟨_, rfl, fun hb => ?_, fun hb => ?_⟩ <;> (have hc := hb; try simp only [go_sem] at hc)) | refine z8 rfl ?_) | ((with_reducible refine And.intro ?_ ?_); focus omega) | (refine z6 hK ?_; clear hK; simp only [go_sem, *]) | (simp only [z5, z4, go_sem, *]))
      all_goals try contradiction
      (refine ⟨[_], [], [], ⟨rfl, trivial⟩, ?_⟩; simp only [go_sem, *])
     ·have q' : ¬ ((s.steps.getD i default).length : Int) > 20 := by omega
      rw [decide_eq_false q, Bool.false_or] at hP
      clear q
      repeat' (first | (show z3 ..; first | (refine Qr rfl ?_; try intro _ hK; try simp only [go_sem, *]) | (refine Qi rfl rfl rfl rfl (fun hb _ hK => ?_) (fun hb => ?_) <;> (have hc := hb; try simp only [go_sem] at hc; simp only [go_sem, *]))) | (show Hold ..; first | refine Qh rfl ?_ | (refine z7 rfl ⟨_, rfl, fun hb => ?_, fun hb => ?_⟩ <;> (have hc := hb; try simp only [go_sem] at hc)) | refine z8 rfl ?_) | ((with_reducible refine And.intro ?_ ?_); focus omega) | (refine z6 hK ?_; clear hK; simp only [go_sem, *]) | (simp only [z5, z4, go_sem, *]))
      all_goals try contradiction
      refine ⟨_, (by omega), [some 0], [], _, _, _, (by (simp only [Weak, go_sem, List.map_append, List.map_set, *] <;> (try simp (disch := omega) only [q9]) <;> (try simp) <;> (try omega))), i + 1, rfl, (by omega), (by exact hP), rfl, rfl, rfl⟩
    ·have hi3 : ¬ (i : Int) < s.steps.length := by omega
     rw [v4 (by omega), List.any_nil] at hP
     subst hP
     repeat' (first | (show z3 ..; first | (refine Qr rfl ?_; try intro _ hK; try simp only [go_sem, *]) | (refine Qi rfl rfl rfl rfl (fun hb _ hK => ?_) (fun hb => ?_) <;> (have hc := hb; try simp only [go_sem] at hc; simp only [go_sem, *]))) | (show Hold ..; first | refine Qh rfl ?_ | (refine z7 rfl ⟨_, rfl, fun hb => ?_, fun hb => ?_⟩ <;> (have hc := hb; try simp only [go_sem] at hc)) | refine z8 rfl ?_) | ((with_reducible refine And.intro ?_ ?_); focus omega) | (refine z6 hK ?_; clear hK; simp only [go_sem, *]) | (simp only [z5, z4, go_sem, *]))
     all_goals try contradiction
     (refine ⟨[_], [], [], ⟨rfl, trivial⟩, ?_⟩; simp only [go_sem, *])
theorem zNi {s : Story} (o : Told s) : Bound 1048576 s := by
 have v := o.first
 have hp : PlanB 1048576 s.first := ⟨by have := v.len; omega, fun l hl => by have := (v.rows l hl).len; omega, fun l hl x hx => by
  have := (u0 x).1 ((v.rows l hl).ok x hx)
  exact ⟨F4 (by omega) (by omega), F4 (by omega) (by omega)⟩⟩
 refine ⟨hp, by have := o.steps; omega, fun w hw => by have := (o.ways w hw).2.1; omega, by have := o.facts; omega, fun f hf => ?_⟩
 obtain ⟨h1, h2, h3⟩ := o.fact f hf
 have h4 := betw_iff.1 h2
 have h5 := v.len
 have h6 := (u0 _).1 h3
 exact ⟨v.wf _ h1, F4 (by omega) (by omega), F4 (by omega) (by omega), F4 (by omega) (by omega)⟩
theorem zOh (s : Story) : (zMi s).length ≤ 27 ∧ ∀ w, w ∈ zMi s → w.length ≤ 3 := by
 unfold zMi
 split
 ·rename_i e
  have o := F1 e
  unfold F3
  refine ⟨by rw [List.length_map]; exact K3 o.steps (fun w hw => (o.ways w hw).2.1), fun w hw => ?_⟩
  obtain ⟨t, ht, rfl⟩ := List.mem_map.1 hw
  have := (zCs o.first t ht).steps
  have := o.steps
  omega
 ·exact ⟨by simp, fun w hw => by cases hw⟩
theorem zM3 : ∀ (l : List Truth) (acc : List zLI), (∀ t, t ∈ l → Valid t.fin) → (∀ q, q ∈ acc → Valid q) → (zMZ l acc).length ≤ acc.length + l.length ∧ ∀ q, q ∈ zMZ l acc → Valid q
  | [], acc, _, h => ⟨by simp [zMZ], h⟩
  | t :: r, acc, hl, h => by
    rw [zMZ]
    split
    · have := zM3 r acc (fun x hx => hl x (by simp [hx])) h
      exact ⟨by simp only [List.length_cons]; omega, this.2⟩
    · have := zM3 r (acc ++ [t.fin]) (fun x hx => hl x (by simp [hx])) (fun q hq => by
        rcases List.mem_append.1 hq with hq | hq
        · exact h q hq
        · rw [List.mem_singleton.1 hq]; exact hl t (by simp))
      exact ⟨by have h1 := this.1; rw [List.length_append, List.length_singleton] at h1; rw [List.length_cons]; omega, this.2⟩
theorem zN3 (s : Story) : (zMg s).length ≤ 27 ∧ ∀ q, q ∈ zMg s → Valid q := by
 unfold zMg
 split
 ·rename_i e
  have o := F1 e
  have h := zM3 (t8 s) [] (fun t ht => (zCs o.first t ht).val) (fun q hq => by cases hq)
  have := K3 o.steps (fun w hw => (o.ways w hw).2.1)
  exact ⟨by have := h.1; simp only [List.length_nil] at this; omega, h.2⟩
 ·exact ⟨by simp, fun w hw => by cases hw⟩
end Go.Abs

namespace Go.Abs
open Go Go.Proofs Tryz
attribute [local irreducible] z3 Hold q7
theorem zO0 (s : Story) (f : Fact) (nums : List Int) (hb : Bound 1048576 s) (hw : f.src.Wf ∧ f.dst.Wf) (h : nums.length ≤ 1048576) : zLJ prog 12 [s.enc, f.enc, l6 nums] [] (bV true) [] := by
 have sw := zK8
 have s0 := zOX s (by have := hb.first.len; omega) (zMr s) rfl
 by_cases hwd : zMr s = true
 ·rw [hwd] at s0
  clear hwd
  refine y3 func12 rfl (fun E hE => ?_); simp only [go_sem, ntmps12]
  repeat' (first | (show z3 ..; first | (refine Qr rfl ?_; try intro _ hK; try simp only [go_sem, *]) | (refine Qi rfl rfl rfl rfl (fun hb _ hK => ?_) (fun hb => ?_) <;> (have hc := hb; try simp only [go_sem] at hc; simp only [go_sem, *]))) | (show Hold ..; first | refine Qh rfl ?_ | refine q6 rfl mixed (by kernel_rfl) ?_ | (refine z7 rfl ⟨_, rfl, fun hb => ?_, fun hb => ?_⟩ <;> (have hc := hb; try simp only [go_sem] at hc)) | refine z8 rfl ?_) | (refine Qb ?_ ?_; focus kernel_rfl) | (show q7 ..; first | ((first | refine q8 (s0) ?_ ?_ | refine q8 (sw) ?_ ?_); (focus (simp only [go_sem, *]; done)); simp only [go_sem, *])) | ((with_reducible refine And.intro ?_ ?_); focus omega) | (refine z6 hK ?_; clear hK; simp only [go_sem, *]) | (simp only [z5, z4, go_sem, *]))
  all_goals try contradiction
  (refine ⟨[_], [], [], ⟨rfl, trivial⟩, ?_⟩; simp only [go_sem, *])
 have hwd : zMr s = false := by simpa using hwd
 rw [hwd] at s0
 clear hwd
 have s1 := zK3 nums
 have s2 := zM7 (zBy nums) 6 3 3 1 (show nums.length ≤ 4294967296 by omega) (by omega) (by omega) (by omega) (by omega)
 have sm := zM8 (d := zBy nums) (houses := 6) (steps := 3) (ways := 3) (facts := 1) (by omega) (by omega) (by omega) (by omega)
 have hdl : (zMf (zBy nums) 6 3 3 1).2.list.length ≤ 4294967296 := by rw [zOe]; show nums.length ≤ _; omega
 generalize zMf (zBy nums) 6 3 3 1 = S at *
 obtain ⟨a, d1⟩ := S
 simp only at s2 sm hdl
 have s3 := zM7 d1 4 2 2 0 hdl (by omega) (by omega) (by omega) (by omega)
 have sn := zM8 (d := d1) (houses := 4) (steps := 2) (ways := 2) (facts := 0) (by omega) (by omega) (by omega) (by omega)
 generalize zMf d1 4 2 2 0 = S at *
 obtain ⟨b, d2⟩ := S
 simp only at s3 sn
 have ba := zNi sm.told
 have bb := zNi sn.told
 have sU := zOL a ba.first.len ba.first.rows ba.ways ba.steps ba.facts
 have hfl := ba.facts
 have bm : Bound 1048576 ⟨a.first, a.steps, a.facts ++ [f]⟩ := ⟨ba.first, ba.steps, ba.ways, by have := sm.told.facts; simp only [List.length_append, List.length_singleton]; omega, fun x hx => by
  rcases List.mem_append.1 hx with hx | hx
  ·exact ba.wf x hx
  ·rw [List.mem_singleton.1 hx]; exact hw⟩
 obtain ⟨SS, hSS⟩ : ∃ SS : List Story, SS = [s, a, ⟨a.first, a.steps, a.facts ++ [f]⟩, b] := ⟨_, rfl⟩
 have hSl : SS.length = 4 := by rw [hSS]; rfl
 have hSa : ∀ x, x ∈ SS → Bound 1048576 x := fun x hx => by
  rw [hSS] at hx
  simp only [List.mem_cons, List.not_mem_nil, or_false] at hx
  rcases hx with rfl | rfl | rfl | rfl
  ·exact hb
  ·exact ba
  ·exact bm
  ·exact bb
 clear ba bb bm hb hw h hdl sm sn
 refine y3 func12 rfl (fun E hE => ?_); simp only [go_sem, ntmps12]
 repeat' (first | (show z3 ..; first | (refine Qr rfl ?_; try intro _ hK; try simp only [go_sem, *]) | (refine Qi rfl rfl rfl rfl (fun hb _ hK => ?_) (fun hb => ?_) <;> (have hc := hb; try simp only [go_sem] at hc; simp only [go_sem, *]))) | (show Hold ..; first | refine Qh rfl ?_ | refine q6 rfl mixed (by kernel_rfl) ?_ | (refine z7 rfl ⟨_, rfl, fun hb => ?_, fun hb => ?_⟩ <;> (have hc := hb; try simp only [go_sem] at hc)) | refine z8 rfl ?_) | (with_reducible (show (∀ _ : AV, _ → _) ∧ _); refine And.intro ?_ ?_; (focus (intro y hy; first | (obtain ⟨z, _, rfl⟩ := List.mem_map.1 (hy); simp [go_sem]; done) | (obtain ⟨z, _, rfl⟩ := List.mem_map.1 (List.mem_of_mem_take hy); simp [go_sem]; done) | (obtain ⟨z, _, rfl⟩ := List.mem_map.1 (List.mem_of_mem_drop hy); simp [go_sem]; done) | (obtain ⟨z, _, rfl⟩ := List.mem_map.1 (List.mem_of_mem_drop (List.mem_of_mem_take hy)); simp [go_sem]; done)))) | (refine Qb ?_ ?_; focus kernel_rfl) | (show q7 ..; first | (refine q8 (s0) ?_ ?_; (focus (simp only [go_sem, *]; done)); simp only [go_sem, *]) | (refine v5 (s1) ?_ ?_ ?_ ?_; (focus (simp only [go_sem, *]; done)); (focus (first | (simp; done) | (simp [go_sem]; done))); (focus (first | (simp; done) | (simp [go_sem]; done))); simp only [go_sem, *]) | (refine x8 [2] [] (s2) (by simp) ?_ ?_ (by simp) (.inl rfl) ?_ ?_ ?_; (focus (simp only [go_sem, *]; done)); (focus (simp only [go_sem, *]; done)); (focus (first | (simp; done) | (simp [go_sem]; done))); (focus (first | (simp; done) | (simp [go_sem]; done))); simp only [go_sem, *]) | (refine v5 (sU) ?_ ?_ ?_ ?_; (focus (simp only [go_sem, *]; done)); (focus (first | (simp; done) | (simp [go_sem]; done))); (focus (first | (simp; done) | (simp [go_sem]; done))); simp only [go_sem, *]) | (refine x8 [2] [] (s3) (by simp) ?_ ?_ (by simp) (.inl rfl) ?_ ?_ ?_; (focus (simp only [go_sem, *]; done)); (focus (simp only [go_sem, *]; done)); (focus (first | (simp; done) | (simp [go_sem]; done))); (focus (first | (simp; done) | (simp [go_sem]; done))); simp only [go_sem, *])) | ((with_reducible refine And.intro ?_ ?_); focus omega) | (refine z6 hK ?_; clear hK; simp only [go_sem, *]) | (simp only [z5, z4, go_sem, *]))
 all_goals try contradiction
 clear s0 s1 s2 s3 sU
 have ht : ∀ x : AV, List.take (a.facts.length + 1) (List.map Fact.enc a.facts ++ [x]) = List.map Fact.enc a.facts ++ [x] := fun x => List.take_of_length_le (by simp)
 refine y8 rfl (fun zn zN zenv zAs => ∃ (i : Nat), zn = (4) - i ∧ i ≤ (4) ∧ (NoP i) ∧ zN = 109 ∧ zenv = [(11, iV i), (10, .list (SS.map Story.enc))] ∧ zAs = []) (4) ⟨[], [8], _, _, _, (by (simp only [Weak, go_sem, List.map_append, List.map_set, *] <;> (try simp (disch := omega) only [q9]) <;> (try simp) <;> (try omega))), 0, (by simp), (by simp), (by trivial), rfl, rfl, rfl⟩ ?_; rintro _ _ _ _ ⟨i, rfl, hi, hP, rfl, rfl, rfl⟩
 clear hSS ht hfl
 by_cases hi : i < 4
 ·have hi3 : (i : Int) < 4 := by omega
  have bx := hSa _ (w6 (l := SS) (i := i) (by omega))
  have sU := zOK (SS.getD i default) bx.first.len bx.first.rows bx.ways bx.steps bx.facts
  have sT := zOR _ bx
  have sR := zOb _ bx
  have sE := zOM _ bx
  have sF := zOY _ bx
  obtain ⟨t1, t2⟩ := zOh (SS.getD i default)
  obtain ⟨e1, e2⟩ := zN3 (SS.getD i default)
  have q1 := zGp (zMi (SS.getD i default)) (zMi (SS.getD i default)) (by omega) (fun w hw => by have := t2 w hw; omega)
  have q2 := zOO (zMg (SS.getD i default)) (zMg (SS.getD i default)) (by omega) (fun p hp => by
   have v := e2 p hp
   exact ⟨by have := v.len; omega, fun l hl => by have := (v.rows l hl).len; omega⟩)
  have q3 := zOP (SS.getD i default) (by have := bx.first.len; omega) (fun l hl => by have := bx.first.rows l hl; omega) (fun w hw => by have := bx.ways w hw; omega) (by have := bx.steps; omega) (by have := bx.facts; omega)
  simp only [decide_true] at q1 q2
  clear t1 t2 e1 e2 bx hSa
  generalize zMi (SS.getD i default) = T at *
  generalize zMg (SS.getD i default) = N at *
  generalize r4 (SS.getD i default) = k at *
  have ee : (k != k) = false := by simp
  repeat' (first | (show z3 ..; first | (refine Qr rfl ?_; try intro _ hK; try simp only [go_sem, *]) | (refine Qi rfl rfl rfl rfl (fun hb _ hK => ?_) (fun hb => ?_) <;> (have hc := hb; try simp only [go_sem] at hc; simp only [go_sem, *]))) | (show Hold ..; first | refine Qh rfl ?_ | refine q6 rfl mixed (by kernel_rfl) ?_ | (refine z7 rfl ⟨_, rfl, fun hb => ?_, fun hb => ?_⟩ <;> (have hc := hb; try simp only [go_sem] at hc)) | refine z8 rfl ?_) | (refine Qb ?_ ?_; focus kernel_rfl) | (show q7 ..; first | ((first | refine q8 (sU) ?_ ?_ | refine q8 (sT) ?_ ?_ | refine q8 (sR) ?_ ?_ | refine q8 (sE) ?_ ?_ | refine q8 (sF) ?_ ?_ | refine q8 (q1) ?_ ?_ | refine q8 (q2) ?_ ?_ | refine q8 (q3) ?_ ?_); (focus (simp only [go_sem, *]; done)); simp only [go_sem, *])) | ((with_reducible refine And.intro ?_ ?_); focus omega) | (refine z6 hK ?_; clear hK; simp only [go_sem, *]) | (simp only [z5, z4, go_sem, *]))
  all_goals try contradiction
  refine ⟨_, (by omega), [], [], _, _, _, (by (simp only [Weak, go_sem, List.map_append, List.map_set, *] <;> (try simp (disch := omega) only [q9]) <;> (try simp) <;> (try omega))), i + 1, rfl, (by omega), (by trivial), rfl, rfl, rfl⟩
 ·have hi3 : ¬ (i : Int) < 4 := by omega
  repeat' (first | (show z3 ..; first | (refine Qr rfl ?_; try intro _ hK; try simp only [go_sem, *]) | (refine Qi rfl rfl rfl rfl (fun hb _ hK => ?_) (fun hb => ?_) <;> (have hc := hb; try simp only [go_sem] at hc; simp only [go_sem, *]))) | (show Hold ..; first | refine Qh rfl ?_ | refine q6 rfl mixed (by kernel_rfl) ?_ | (refine z7 rfl ⟨_, rfl, fun hb => ?_, fun hb => ?_⟩ <;> (have hc := hb; try simp only [go_sem] at hc)) | refine z8 rfl ?_) | (refine Qb ?_ ?_; focus kernel_rfl) | (show q7 ..; first | (refine q8 (sw) ?_ ?_; (focus (simp only [go_sem, *]; done)); simp only [go_sem, *])) | ((with_reducible refine And.intro ?_ ?_); focus omega) | (refine z6 hK ?_; clear hK; simp only [go_sem, *]) | (simp only [z5, z4, go_sem, *]))
  all_goals try contradiction
  (refine ⟨[_], [], [], ⟨rfl, trivial⟩, ?_⟩; simp only [go_sem, *])
end Go.Abs

