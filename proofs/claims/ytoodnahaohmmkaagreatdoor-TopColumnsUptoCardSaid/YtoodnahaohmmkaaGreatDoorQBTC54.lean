/-
  WHAT THE PROOF STANDS ON, PART 4: contracts of the program's functions and the logic that they are proved in. No condition.
-/
import Derived.Test.YtoodnahaohmmkaaGreatDoorRows
import Derived.ProofKit
import Derived.OpenShut
import Derived.JoinedCond
import Derived.ChangeSlices
import Derived.Carry
import Derived.Test.YtoodnahaohmmkaaGreatDoorCards
import Derived.Deep.DeepHandedRow
import Derived.Deep.DeepWitnessRowRef
import Derived.Lib.LaidCaseMet
import Derived.Shelf.Lays
import Derived.KernelRfl
import Derived.LaidHandle
import Derived.Lib.Builder
import Derived.LaidEqlPtr
import Derived.Test.YtoodnahaohmmkaaGreatDoorProg
import Derived.WalkKit
import Derived.LaidEql
import Derived.Stop.Asserts
import Derived.RowKitTokens
import Derived.Lib.Bytealg
import Derived.Maps.Keyed
import Derived.DeepKeys3
import Derived.Test.YtoodnahaohmmkaaGreatDoorQBTC53
set_option maxRecDepth 100000
set_option maxHeartbeats 4000000
set_option linter.unnecessarySimpa false
set_option linter.unusedVariables false
set_option linter.unusedSimpArgs false
set_option linter.unusedSectionVars false
namespace Go.Abs
open Go
structure Change where
 kind : Int
 street : Int
 other : Int
 src : Plate
 dst : Plate
 deriving DecidableEq, Inhabited
structure Fact where
 src : House
 dst : House
 deriving DecidableEq, Inhabited
structure Story where
 first : zVF
 steps : List (List Change)
 facts : List Fact
 deriving DecidableEq, Inhabited
@[reducible] def Change.enc (c : Change) : AV := .agg [iV c.kind, iV c.street, iV c.other, iV c.src.number, iV c.src.letter, iV c.dst.number, iV c.dst.letter]
@[reducible] def Fact.enc (f : Fact) : AV := .agg [iV f.src.street, iV f.src.plate.number, iV f.src.plate.letter, iV f.dst.street, iV f.dst.plate.number, iV f.dst.plate.letter]
@[reducible] def zEp (l : List Change) : AV := .agg [.list (l.map Change.enc)]
@[reducible] def Story.enc (s : Story) : AV := .agg [.list (s.first.map zEq), .list (s.steps.map zEp), .list (s.facts.map Fact.enc)]
attribute [go_sem] Change.enc Fact.enc zEp Story.enc
theorem o5 {α : Type} [Inhabited α] {l : List α} {i : Nat} (h : i < l.length) : l.drop i = l.getD i default :: l.drop (i + 1) := by
 rw [List.drop_eq_getElem_cons h]; simp [List.getD, h]
theorem Z5 {α : Type} {l : List α} {i : Nat} (h : l.length ≤ i) : l.drop i = [] := List.drop_of_length_le h
theorem u5 {α : Type} [Inhabited α] {l : List α} {i : Nat} (h : i < l.length) : l.getD i default ∈ l := by simp [List.getD, h]
def zV6 (n lo hi : Int) : Bool := decide (lo ≤ n) && decide (n ≤ hi)
def Plate.ok (x : Plate) : Bool := zV6 x.number 1 40 && zV6 x.letter 0 4
def Plate.lt (a b : Plate) : Bool := decide (a.number < b.number) || (decide (a.number = b.number) && decide (a.letter < b.letter))
def House.lt (a b : House) : Bool := decide (a.street < b.street) || (decide (a.street = b.street) && a.plate.lt b.plate)
def zUU (a b : Int) : Int := if a < b then -1 else if b < a then 1 else 0
def orI (a b : Int) : Int := if a = 0 then b else a
def zBL : Option Plate → List Plate → Int
 | _, [] => 0
 | none, x :: r => if x.ok = true then zBL (some x) r else 1
 | some y, x :: r => if x.ok = true then (if y.lt x = true then zBL (some x) r else 5) else 1
def zEd : zVF → Int
 | [] => 0
 | l :: r => if 8 < l.length then 6 else if zBL none l = 0 then zEd r else zBL none l
def check (p : zVF) : Int := if p.length = 0 then 7 else if 3 < p.length then 6 else zEd p
structure Sound (l : List Plate) : Prop where
 len : l.length ≤ 8
 ok : ∀ x, x ∈ l → x.ok = true
 sorted : l.Pairwise (fun x y => x.lt y = true)
structure Valid (p : zVF) : Prop where
 ne : 0 < p.length
 len : p.length ≤ 3
 rows : ∀ l, l ∈ p → Sound l
def zAv (p : zVF) (s : Int) : List Plate := p.getD s.toNat default
def base (l : List Plate) : Int := let n := l.foldl (fun n x => max n x.number) 0; n + n % 2
def letter (l : List Plate) (n : Int) : Int :=
 if ⟨n, 1⟩ ∉ l then 1 else if ⟨n, 2⟩ ∉ l then 2 else if ⟨n, 3⟩ ∉ l then 3 else if ⟨n, 4⟩ ∉ l then 4 else 0
def zKc (p : zVF) (c : Change) : Int :=
 let l := zAv p c.street
 if c.kind = 4 then
  let o := zAv p c.other
  if 8 < l.length + o.length then 6 else if l.any (fun x => decide (40 < x.number + base o)) = true then 1 else 0
 else if c.kind = 5 then if c.src ∉ l then 3 else if l.length = 8 ∨ letter l c.src.number = 0 then 6 else 0
 else if c.kind = 6 then if c.src ∉ l then 3 else 0
 else if c.kind = 7 then if c.src ∉ l ∨ c.dst ∉ l then 3 else if c.dst.lt c.src = true then 5 else if 0 < (zAv p c.other).length then 12 else 0
 else 0
def zV9 (x : House) : List House → List House
 | [] => [x]
 | y :: r => if y.lt x = true then y :: zV9 x r else if y = x then y :: r else x :: y :: r
def zOO (l : List House) : List House := l.foldl (fun out x => zV9 x out) []
def laid (l : List House) (n : Nat) : zVF := (List.range n).map fun (s : Nat) => ((zOO l).filter (fun h => h.street == (s : Int))).map House.plate
def O6 {α β : Type} (f : α → Option β) : List α → Option β
 | [] => none
 | x :: r => match f x with
  | some y => some y
  | none => O6 f r
end Go.Abs

namespace Go.Abs
open Go Go.Proofs Tryz
variable [Cur]
attribute [go_sem] bne_eq_false_iff_eq Bool.not_eq_true' Bool.not_eq_false'
@[go_sem] theorem zTW (n : Nat) : ((0 : Int) < (n : Int)) = (0 < n) := by simp
theorem u0 {P : Program} {f : FuncId} {avs : List AV} {H : Nat → AObj} {nx : Nat} {K : Cont} {r : AV} (sp : zUL P f avs [] r []) (h : XpL H [] [] avs avs) (hk : K (r.ren (x9 [] nx)) [] []) : y2 P f avs H nx K :=
 x7 [] [] sp (by simp) h trivial (by simp) (.inl rfl) (fun j hj => by simp at hj) (fun A hA => by simp at hA) hk
theorem U5 (ex : List Nat) {P : Program} {f : FuncId} {avs : List AV} {H : Nat → AObj} {nx : Nat} {K : Cont} {args : List AV} {r : AV} (sp : zUL P f args [] r []) (h : XpL H [] ex args avs) (hs : Scal r) (hk : K (r.ren (x9 [] nx)) ex []) : y2 P f avs H nx K :=
 x7 [] ex sp (by simp) h trivial (by simp) (.inr ⟨hs, fun A hA => by simp at hA⟩) (fun j hj => by simp at hj) (fun A hA => by simp at hA) (by simpa [W9, u7, zUS] using hk)
section
variable {P : Program} {E : Env} {Q : Exit → AS → Prop} {σ : AS} {p : List Nat} {b : Code}
theorem Qd {id : Nat} {ops : List Oper} (h : sub p b = .region id ops.toArray true) (he : J3 ops = true) (hx : q9 prog ops (fun σ' ts => I3 ops ts = true ∧ Q .normal σ') ops σ []) : Hold prog E (sub p b) Q σ := zN4 h mixed he hx
theorem Qc {c : Operand} {t : Bool} (h : zCy (sub p b) = some c) (ht : σ.ev c = .raw (.bool t)) (h1 : t = true → Hold P E (sub (0 :: p) b) Q σ) (h2 : t = false → Hold P E (sub (1 :: p) b) Q σ) : Hold P E (sub p b) Q σ := zBr h ⟨t, ht, h1, h2⟩
theorem y6 {f : FuncId} {avs : List AV} {H : Nat → AObj} {nx : Nat} {K : Cont} {r : AV} (sp : zUL P f avs [] r []) (hk : K (r.ren (x9 [] nx)) [] []) (h : XpL H [] [] avs avs := by simp only [go_sem, *]; done) : y2 P f avs H nx K := u0 sp h hk
theorem i3 {f : FuncId} {avs : List AV} {H : Nat → AObj} {nx : Nat} {K : Cont} {r : AV} {out : List AObj} (sp : zUL P f avs [] r out) (hk : K (r.ren (x9 [] nx)) (W9 [] nx out) (u7 [] nx out)) (h : XpL H [] [] avs avs := by simp only [go_sem, *]; done)
  (hu : ∀ j, j < out.length → H (nx + j) = .unb := by first | (simp; done) | (simp [go_sem]; done) | (simp [go_sem]; intros; omega)) (h7 : ∀ A, A ∈ out → A ≠ .unb := by first | (simp; done) | (simp [go_sem]; done)) : y2 P f avs H nx K :=
 x7 [] [] sp (by simp) h trivial (by simp) (.inl rfl) (fun j hj => hu j (by simpa using hj)) h7 (by simpa using hk)
theorem u9 {f : FuncId} {avs : List AV} {H : Nat → AObj} {nx : Nat} {K : Cont} (ids : List Nat) {args : List AV} {fp : List AObj} {r : AV} {out : List AObj} (sp : zUL P f args fp r out) (hk : K (r.ren (x9 ids nx)) (ids ++ [] ++ W9 ids nx out) (u7 ids nx out))
  (h1 : ids.Nodup := by simp) (h2 : XpL H (ids.map some) [] args avs := by simp only [go_sem, *]; done) (h3 : fpsF H (ids.map some) [] fp ids := by simp only [go_sem, *]; done)
  (h6 : ∀ j, j < out.length - ids.length → H (nx + j) = .unb := by first | (simp; done) | (simp [go_sem]; done) | (simp [go_sem]; intros; omega)) (h7 : ∀ A, A ∈ out → A ≠ .unb := by first | (simp; done) | (simp [go_sem]; done)) : y2 P f avs H nx K :=
 x7 ids [] sp h1 h2 h3 (by simp) (.inl rfl) h6 h7 hk
theorem x8 (h : zBZ (sub p b) = true) (L : Nat) (R : Nat → Prop) (N : Nat) (env : Nat → List (Nat × AV)) (As : Nat → List AObj) (m : List (Option Nat)) (ex : List Nat) (hp : R 0)
  (hx : ∀ i, i ≤ L → R i → Hold P E (sub (0 :: p) b) (z6 (fun σ' => ∃ n', n' < L - i ∧ ∃ m ex zN zenv zAs, Weak E.n m ex σ' zN zenv zAs ∧ ∃ i, n' = L - i ∧ i ≤ L ∧ R i ∧ zN = N ∧ zenv = env i ∧ zAs = As i) Q) ⟨N, env i, zUS 0 (As i)⟩)
  (hW : Weak E.n m ex σ N (env 0) (As 0) := by (simp only [Weak, go_sem, List.map_append, List.map_set, *] <;> (try simp (disch := omega) only [u6]) <;> (try simp) <;> (try omega))) : Hold P E (sub p b) Q σ := by
 refine zDe h (fun zn zN zenv zAs => ∃ i, zn = L - i ∧ i ≤ L ∧ R i ∧ zN = N ∧ zenv = env i ∧ zAs = As i) L ⟨m, ex, _, _, _, hW, 0, rfl, Nat.zero_le _, hp, rfl, rfl, rfl⟩ ?_
 rintro _ _ _ _ ⟨i, rfl, hi, hP, rfl, rfl, rfl⟩
 exact hx i hi hP
theorem y8 {L B i' N : Nat} {R : Nat → Prop} {env : Nat → List (Nat × AV)} {As : Nat → List AObj} {n : Nat} {σ' : AS} (m : List (Option Nat)) (ex : List Nat) (hp : R i') (h1 : L - i' < B := by omega) (h2 : i' ≤ L := by omega)
  (hW : Weak n m ex σ' N (env i') (As i') := by (simp only [Weak, go_sem, List.map_append, List.map_set, *] <;> (try simp (disch := omega) only [u6]) <;> (try simp) <;> (try omega))) :
  ∃ n', n' < B ∧ ∃ m ex zN zenv zAs, Weak n m ex σ' zN zenv zAs ∧ ∃ i, n' = L - i ∧ i ≤ L ∧ R i ∧ zN = N ∧ zenv = env i ∧ zAs = As i := ⟨_, h1, m, ex, _, _, _, hW, i', rfl, h2, hp, rfl, rfl, rfl⟩
theorem Q8 {α : Type} (h : zBZ (sub p b) = true) (L : Nat) (R : Nat → α → Prop) (N : Nat) (env : Nat → α → List (Nat × AV)) (As : Nat → α → List AObj) (m : List (Option Nat)) (ex : List Nat) (w : α) (hp : R 0 w)
  (hx : ∀ i v, i ≤ L → R i v → Hold P E (sub (0 :: p) b) (z6 (fun σ' => ∃ n', n' < L - i ∧ ∃ m ex zN zenv zAs, Weak E.n m ex σ' zN zenv zAs ∧ ∃ i v, n' = L - i ∧ i ≤ L ∧ R i v ∧ zN = N ∧ zenv = env i v ∧ zAs = As i v) Q) ⟨N, env i v, zUS 0 (As i v)⟩)
  (hW : Weak E.n m ex σ N (env 0 w) (As 0 w) := by (simp only [Weak, go_sem, List.map_append, List.map_set, *] <;> (try simp (disch := omega) only [u6]) <;> (try simp) <;> (try omega))) : Hold P E (sub p b) Q σ := by
 refine zDe h (fun zn zN zenv zAs => ∃ i v, zn = L - i ∧ i ≤ L ∧ R i v ∧ zN = N ∧ zenv = env i v ∧ zAs = As i v) L ⟨m, ex, _, _, _, hW, 0, w, rfl, Nat.zero_le _, hp, rfl, rfl, rfl⟩ ?_
 rintro _ _ _ _ ⟨i, v, rfl, hi, hP, rfl, rfl, rfl⟩
 exact hx i v hi hP
theorem r7 {α : Type} {L B i' N : Nat} {R : Nat → α → Prop} {env : Nat → α → List (Nat × AV)} {As : Nat → α → List AObj} {n : Nat} {σ' : AS} (m : List (Option Nat)) (ex : List Nat) (w : α) (hp : R i' w) (h1 : L - i' < B := by omega) (h2 : i' ≤ L := by omega)
  (hW : Weak n m ex σ' N (env i' w) (As i' w) := by (simp only [Weak, go_sem, List.map_append, List.map_set, *] <;> (try simp (disch := omega) only [u6]) <;> (try simp) <;> (try omega))) :
  ∃ n', n' < B ∧ ∃ m ex zN zenv zAs, Weak n m ex σ' zN zenv zAs ∧ ∃ i v, n' = L - i ∧ i ≤ L ∧ R i v ∧ zN = N ∧ zenv = env i v ∧ zAs = As i v := ⟨_, h1, m, ex, _, _, _, hW, i', w, rfl, h2, hp, rfl, rfl, rfl⟩
theorem A6 {α β : Type} (h : zBZ (sub p b) = true) (L : Nat) (R : Nat → α → β → Prop) (N : Nat) (env : Nat → α → β → List (Nat × AV)) (As : Nat → α → β → List AObj) (m : List (Option Nat)) (ex : List Nat) (w : α) (x : β) (hp : R 0 w x)
  (hx : ∀ i v u, i ≤ L → R i v u → Hold P E (sub (0 :: p) b) (z6 (fun σ' => ∃ n', n' < L - i ∧ ∃ m ex zN zenv zAs, Weak E.n m ex σ' zN zenv zAs ∧ ∃ i v u, n' = L - i ∧ i ≤ L ∧ R i v u ∧ zN = N ∧ zenv = env i v u ∧ zAs = As i v u) Q) ⟨N, env i v u, zUS 0 (As i v u)⟩)
  (hW : Weak E.n m ex σ N (env 0 w x) (As 0 w x) := by (simp only [Weak, go_sem, List.map_append, List.map_set, *] <;> (try simp (disch := omega) only [u6]) <;> (try simp) <;> (try omega))) : Hold P E (sub p b) Q σ := by
 refine zDe h (fun zn zN zenv zAs => ∃ i v u, zn = L - i ∧ i ≤ L ∧ R i v u ∧ zN = N ∧ zenv = env i v u ∧ zAs = As i v u) L ⟨m, ex, _, _, _, hW, 0, w, x, rfl, Nat.zero_le _, hp, rfl, rfl, rfl⟩ ?_
 rintro _ _ _ _ ⟨i, v, u, rfl, hi, hP, rfl, rfl, rfl⟩
 exact hx i v u hi hP
theorem S8 {α β : Type} {L B i' N : Nat} {R : Nat → α → β → Prop} {env : Nat → α → β → List (Nat × AV)} {As : Nat → α → β → List AObj} {n : Nat} {σ' : AS} (m : List (Option Nat)) (ex : List Nat) (w : α) (x : β) (hp : R i' w x) (h1 : L - i' < B := by omega) (h2 : i' ≤ L := by omega)
  (hW : Weak n m ex σ' N (env i' w x) (As i' w x) := by (simp only [Weak, go_sem, List.map_append, List.map_set, *] <;> (try simp (disch := omega) only [u6]) <;> (try simp) <;> (try omega))) :
  ∃ n', n' < B ∧ ∃ m ex zN zenv zAs, Weak n m ex σ' zN zenv zAs ∧ ∃ i v u, n' = L - i ∧ i ≤ L ∧ R i v u ∧ zN = N ∧ zenv = env i v u ∧ zAs = As i v u := ⟨_, h1, m, ex, _, _, _, hW, i', w, x, rfl, h2, hp, rfl, rfl, rfl⟩
end
structure Hid (p : Prop) : Prop where
 out : p
structure Own (ids : List Nat) (p : Prop) : Prop where
 out : p
structure Frz (p : Prop) : Prop where
 out : p
theorem own (ids : List Nat) {p : Prop} (h : p) : Own ids p := ⟨h⟩
theorem frz {p : Prop} (h : p) : Frz p := ⟨h⟩
theorem cc {a b : Prop} (h : a) (k : b) : a ∧ b := ⟨h, k⟩
theorem R4 {P : Program} {f : FuncId} {avs : List AV} {H : Nat → AObj} {nx : Nat} {K : Cont} {ids : List Nat} {args : List AV} {fp : List AObj} {r : AV} {out : List AObj} (o : Own ids (zUL P f args fp r out)) (hk : K (r.ren (x9 ids nx)) (ids ++ [] ++ W9 ids nx out) (u7 ids nx out))
  (h1 : ids.Nodup := by simp) (h2 : XpL H (ids.map some) [] args avs := by simp only [go_sem, *]; done) (h3 : fpsF H (ids.map some) [] fp ids := by simp only [go_sem, *]; done)
  (h6 : ∀ j, j < out.length - ids.length → H (nx + j) = .unb := by first | (simp; done) | (simp [go_sem]; done) | (simp [go_sem]; intros; omega)) (h7 : ∀ A, A ∈ out → A ≠ .unb := by first | (simp; done) | (simp [go_sem]; done)) : y2 P f avs H nx K :=
 u9 ids o.out hk h1 h2 h3 h6 h7
theorem R5 {P : Program} {f : FuncId} {avs args : List AV} {H : Nat → AObj} {nx : Nat} {K : Cont} {r : AV} {out : List AObj} {gone : List Nat} (sp : Frz (zUL P f args [] r out))
  (hk : K (r.ren (x9 [] nx)) (gone ++ W9 [] nx out) (w5 gone ++ u7 [] nx out))
  (ha : (avs.map fun x => (zUO H 3 x).1) = args := by simp only [go_sem, *]; done) (hg : (avs.map fun x => (zUO H 3 x).2).flatten = gone := by rfl)
  (hx : XpL (fun o => if o ∈ gone then .dead else H o) [] [] args args := by simp only [go_sem, *]; done) (hu : ∀ j, j < out.length → (if nx + j ∈ gone then AObj.dead else H (nx + j)) = .unb := by first | (simp; done) | (simp [go_sem]; done)) (h7 : ∀ A, A ∈ out → A ≠ .unb := by first | (simp; done) | (simp [go_sem]; done)) : y2 P f avs H nx K := by
 refine zEZ ?_
 rw [ha, hg]
 exact zCN [] [] sp.out (by simp) hx trivial (by simp) (.inl rfl) (fun j hj => hu j (by simpa using hj)) h7 (by simpa using hk)
theorem wc {C G R : Prop} (c : Hid C) (r : R) (h : Hid C → Hid R → G := by (intro hC hR; (first | (first | refine y6 (hC.out) ?_ | refine i3 (hC.out) ?_ | refine R4 (hC.out) ?_); simp only [go_sem, *] | (first | refine y6 (hC.out.1) ?_ | refine i3 (hC.out.1) ?_ | refine R4 (hC.out.1) ?_); simp only [go_sem, *] | (first | refine y6 (hC.out.2) ?_ | refine i3 (hC.out.2) ?_ | refine R4 (hC.out.2) ?_); simp only [go_sem, *] | (first | refine y6 (hC.out.2.1) ?_ | refine i3 (hC.out.2.1) ?_ | refine R4 (hC.out.2.1) ?_); simp only [go_sem, *] | (first | refine y6 (hC.out.2.2) ?_ | refine i3 (hC.out.2.2) ?_ | refine R4 (hC.out.2.2) ?_); simp only [go_sem, *] | (first | refine y6 (hC.out.2.2.1) ?_ | refine i3 (hC.out.2.2.1) ?_ | refine R4 (hC.out.2.2.1) ?_); simp only [go_sem, *] | (first | refine y6 (hC.out.2.2.2) ?_ | refine i3 (hC.out.2.2.2) ?_ | refine R4 (hC.out.2.2.2) ?_); simp only [go_sem, *] | (first | refine y6 (hC.out.2.2.2.1) ?_ | refine i3 (hC.out.2.2.2.1) ?_ | refine R4 (hC.out.2.2.2.1) ?_); simp only [go_sem, *] | (first | refine y6 (hC.out.2.2.2.2) ?_ | refine i3 (hC.out.2.2.2.2) ?_ | refine R4 (hC.out.2.2.2.2) ?_); simp only [go_sem, *] | (first | refine y6 (hC.out.2.2.2.2.1) ?_ | refine i3 (hC.out.2.2.2.2.1) ?_ | refine R4 (hC.out.2.2.2.2.1) ?_); simp only [go_sem, *] | (first | refine y6 (hC.out.2.2.2.2.2) ?_ | refine i3 (hC.out.2.2.2.2.2) ?_ | refine R4 (hC.out.2.2.2.2.2) ?_); simp only [go_sem, *] | refine R5 (hC.out) ?_; simp only [go_sem, w5, *] | refine R5 (hC.out.1) ?_; simp only [go_sem, w5, *] | refine R5 (hC.out.2) ?_; simp only [go_sem, w5, *] | refine R5 (hC.out.2.1) ?_; simp only [go_sem, w5, *] | refine R5 (hC.out.2.2) ?_; simp only [go_sem, w5, *] | refine R5 (hC.out.2.2.1) ?_; simp only [go_sem, w5, *] | refine R5 (hC.out.2.2.2) ?_; simp only [go_sem, w5, *] | refine R5 (hC.out.2.2.2.1) ?_; simp only [go_sem, w5, *] | refine R5 (hC.out.2.2.2.2) ?_; simp only [go_sem, w5, *] | refine R5 (hC.out.2.2.2.2.1) ?_; simp only [go_sem, w5, *] | refine R5 (hC.out.2.2.2.2.2) ?_; simp only [go_sem, w5, *]); exact hR.out)) : G := h c ⟨r⟩
theorem wk1 {C G R : Prop} (c : C) (r : R) (h : Hid C → Hid R → G := by (intro hC hR; (repeat' (first | (refine Qr rfl ?_; try intro _ hK; try simp only [go_sem, *]) | (refine Qi rfl rfl rfl rfl ?_ ?_ <;> (intro hb; (try intro _ hK); have hc := hb; try simp only [go_sem] at hc; simp only [go_sem, *])) | refine Qh rfl ?_ | refine Qd rfl (by kernel_rfl) ?_ | (refine Qc rfl rfl ?_ ?_ <;> (intro hb; have hc := hb; try simp only [go_sem] at hc)) | refine z8 rfl ?_ | (refine Qb ?_ ?_; focus kernel_rfl) | ((with_reducible show y2 _ _ _ _ _ _); refine wc hC ?_) | ((with_reducible apply And.intro); focus omega) | (refine z7 hK ?_; clear hK; simp only [go_sem, *]) | simp only [z6, z5, go_sem, *])); (all_goals try contradiction); (focus exact hR.out))) : G := h ⟨c⟩ ⟨r⟩
theorem wk2 {C G R S : Prop} (c : C) (r : R) (s : S) (h : Hid C → Hid R → Hid S → G := by (intro hC hR hS; (repeat' (first | (refine Qr rfl ?_; try intro _ hK; try simp only [go_sem, *]) | (refine Qi rfl rfl rfl rfl ?_ ?_ <;> (intro hb; (try intro _ hK); have hc := hb; try simp only [go_sem] at hc; simp only [go_sem, *])) | refine Qh rfl ?_ | refine Qd rfl (by kernel_rfl) ?_ | (refine Qc rfl rfl ?_ ?_ <;> (intro hb; have hc := hb; try simp only [go_sem] at hc)) | refine z8 rfl ?_ | (refine Qb ?_ ?_; focus kernel_rfl) | ((with_reducible show y2 _ _ _ _ _ _); refine wc hC ?_) | ((with_reducible apply And.intro); focus omega) | (refine z7 hK ?_; clear hK; simp only [go_sem, *]) | simp only [z6, z5, go_sem, *])); (all_goals try contradiction); (focus exact hR.out); (focus exact hS.out))) : G := h ⟨c⟩ ⟨r⟩ ⟨s⟩
theorem wk3 {C G R S T : Prop} (c : C) (r : R) (s : S) (t : T) (h : Hid C → Hid R → Hid S → Hid T → G := by (intro hC hR hS hT; (repeat' (first | (refine Qr rfl ?_; try intro _ hK; try simp only [go_sem, *]) | (refine Qi rfl rfl rfl rfl ?_ ?_ <;> (intro hb; (try intro _ hK); have hc := hb; try simp only [go_sem] at hc; simp only [go_sem, *])) | refine Qh rfl ?_ | refine Qd rfl (by kernel_rfl) ?_ | (refine Qc rfl rfl ?_ ?_ <;> (intro hb; have hc := hb; try simp only [go_sem] at hc)) | refine z8 rfl ?_ | (refine Qb ?_ ?_; focus kernel_rfl) | ((with_reducible show y2 _ _ _ _ _ _); refine wc hC ?_) | ((with_reducible apply And.intro); focus omega) | (refine z7 hK ?_; clear hK; simp only [go_sem, *]) | simp only [z6, z5, go_sem, *])); (all_goals try contradiction); (focus exact hR.out); (focus exact hS.out); (focus exact hT.out))) : G := h ⟨c⟩ ⟨r⟩ ⟨s⟩ ⟨t⟩
theorem we1 {C G R : Prop} (c : C) (r : R) (h : Hid C → Hid R → G := by (intro hC hR; (repeat' (first | (refine Qr rfl ?_; try intro _ hK; try simp only [go_sem, *]) | (refine Qi rfl rfl rfl rfl ?_ ?_ <;> (intro hb; (try intro _ hK); have hc := hb; try simp only [go_sem] at hc; simp only [go_sem, *])) | refine Qh rfl ?_ | refine Qd rfl (by kernel_rfl) ?_ | (refine Qc rfl rfl ?_ ?_ <;> (intro hb; have hc := hb; try simp only [go_sem] at hc)) | refine z8 rfl ?_ | (with_reducible (show (∀ _ : AV, _ → _) ∧ _); refine wel ?_) | (refine Qb ?_ ?_; focus kernel_rfl) | ((with_reducible show y2 _ _ _ _ _ _); refine wc hC ?_) | ((with_reducible apply And.intro); focus omega) | (refine z7 hK ?_; clear hK; simp only [go_sem, *]) | simp only [z6, z5, go_sem, *])); (all_goals try contradiction); (focus exact hR.out))) : G := h ⟨c⟩ ⟨r⟩
theorem I4 {k : IntKind} {a b : Int} (h : a = b) : Value.int k a = Value.int k b := by rw [h]
theorem wel {A B : Prop} (b : B) (h : A := by (intro y hy; first | (obtain ⟨z, _, rfl⟩ := List.mem_map.1 (hy); simp [go_sem]; done) | (obtain ⟨z, _, rfl⟩ := List.mem_map.1 (List.mem_of_mem_take hy); simp [go_sem]; done) | (obtain ⟨z, _, rfl⟩ := List.mem_map.1 (List.mem_of_mem_drop hy); simp [go_sem]; done) | (obtain ⟨z, _, rfl⟩ := List.mem_map.1 (List.mem_of_mem_drop (List.mem_of_mem_take hy)); simp [go_sem]; done))) : A ∧ B := ⟨h, b⟩
end Go.Abs

namespace Go.Abs
open Go
variable [Cur]
theorem zEn {P : Program} {g : FuncId} {caps : List AV} {F : AS → Prop} {e : Exit} {σ : AS} (md : FrameMode) (ids : List Nat) {args : List AV} {fp out : List AObj} (sp : zBH P g md .returning args fp out)
  (he : match e with | .normal => md = .returning | .ret => md = .returning | .panic ch => md = .panicking ch | _ => False)
  (h1 : ids.Nodup) (h2 : XpL σ.obj (ids.map some) [] args caps) (h3 : fpsF σ.obj (ids.map some) [] fp ids) (h6 : out.length = ids.length) (h7 : ∀ A, A ∈ out → A ≠ .unb) (hF : F (σ.writes (u7 ids 0 out))) : zEm P g caps F e σ := by
 refine ⟨md, he, 0, ids, [], args, fp, out, ⟨sp, h1, by simp, ?_, (fpsF.sound h3).1, fun k h => ?_, .inl rfl, fun j hj => by omega, h7⟩, hF⟩
 ·rw [← N5]; exact XpL.all2 h2
 ·rw [← N5]; exact (fpsF.sound h3).2 k h
structure StopK (p : Prop) : Prop where
 it : p
theorem M0 {P : Program} {E : Env} {b : Code} {Q : Exit → AS → Prop} {σ : AS} (p : List Nat) (h : StopK (Hold P E (sub p b) Q σ)) : Hold P E (sub p b) Q σ := h.it
section
variable {P : Program} {E : Env} {Q : Exit → FrameMode → AS → Prop} {mode : FrameMode} {σ : AS} {p : List Nat} {b : Code}
theorem zG6 (h : zBa (sub p b) = true) (hx : O2 P E (sub (0 :: p) b) (fun e m σ' => match e with | .normal => O2 P E (sub (1 :: p) b) Q m σ' | e => Q e m σ') mode σ) : O2 P E (sub p b) Q mode σ := by
 have e : sub p b = .seq (sub (0 :: p) b) (sub (1 :: p) b) := by
  show sub p b = .seq (O3 0 (sub p b)) (O3 1 (sub p b))
  cases hs : sub p b <;> simp_all [zBa, O3]
 rw [e]
 exact zLh hx
theorem zG5 {id : Nat} {ops : List Oper} (h : sub p b = .region id ops.toArray false) {o : Oper} {post : List Oper} (hops : ops = o :: post) {args : Array Operand} {ts : Array TypeId} (hop : o.op = .call ⟨.builtin .recover, args, ts⟩) (hg : o.guard = none) (h1 : ((Y1 mode).1).oneCell' = true) (hd : ∀ d, o.dst = some d → d < σ.n)
  (hx : q9 P (o :: post) (fun σ' _ => Q .normal (Y1 mode).2 σ') post (σ.putD o.dst (.raw (Y1 mode).1)) []) : O2 P E (sub p b) Q mode σ := by
 rw [h, hops]
 exact zLg hop hg h1 hd hx
end
end Go.Abs

namespace Go.Abs
open Go
variable [Cur]
theorem zDR {P : Program} {f : FuncId} {v : Value} {avs : List AV} {H : Nat → AObj} {nx : Nat} {K : List (Nat × AObj) → Prop} (ids : List Nat) {args : List AV} {fp out : List AObj} (sp : G7 P f v args fp out)
  (hK : K (u7 ids nx out)) (h1 : ids.Nodup) (h2 : XpL H (ids.map some) [] args avs) (h3 : fpsF H (ids.map some) [] fp ids) (h6 : out.length = ids.length) (h7 : ∀ A, A ∈ out → A ≠ .unb) : zVa P f v avs H nx K := by
 refine ⟨ids, [], args, fp, out, ⟨sp, h1, by simp, ?_, (fpsF.sound h3).1, fun k h => ?_, .inl rfl, fun j hj => by omega, h7⟩, hK⟩
 ·rw [← N5]; exact XpL.all2 h2
 ·rw [← N5]; exact (fpsF.sound h3).2 k h
def zDQ (ops : List Oper) (k : Nat) (fl : List Bool) : Bool :=
 decide (k < ops.length) && !(fl.getD k true) && J3 ops && (List.range ops.length).all fun i =>
  (ops.getD i default).guard.isNone &&
  if fl.getD i false || i == k then ((ops.getD i default).looksAt ops.toArray).all fun t => (ops.all fun o => o.dst != some t) || (ops.getD i default).after.toList.any fun e => Region.binds .any e && (decide (e.on < ops.length) && (ops.getD e.on default).dst == some t)
  else (ops.getD i default).after.toList.any fun e => Region.binds .any e && !(fl.getD e.on true)
def zVU (P : Program) (σF : AS) : List Oper → List Bool → Prop
 | o :: r, true :: bs => ((match o.dst with | some d => ltN d σF.n | none => True) ∧ zUV P o σF.ev σF.obj σF.nx (fun v _ wr => wr = [] ∧ (match o.dst with | some d => σF.get d = v | none => True))) ∧ zVU P σF r bs
 | _ :: r, false :: bs => zVU P σF r bs
 | _, _ => True
theorem zCc {P : Program} {σF : AS} : ∀ {l : List Oper} {fl : List Bool} {i : Nat} {o : Oper}, zVU P σF l fl → l[i]? = some o → fl.getD i false = true →
  (match o.dst with | some d => ltN d σF.n | none => True) ∧ zUV P o σF.ev σF.obj σF.nx (fun v _ wr => wr = [] ∧ (match o.dst with | some d => σF.get d = v | none => True))
 | o :: r, true :: bs, 0, _, h, hl, _ => by cases hl; exact h.1
 | o :: r, true :: bs, i + 1, _, h, hl, hf => zCc (l := r) (fl := bs) (i := i) h.2 (by simpa using hl) (by simpa using hf)
 | o :: r, false :: bs, 0, _, _, _, hf => by simp at hf
 | o :: r, false :: bs, i + 1, _, h, hl, hf => zCc (l := r) (fl := bs) (i := i) h (by simpa using hl) (by simpa using hf)
 | [], _, i, _, _, hl, _ => by simp at hl
 | _ :: _, [], i, _, _, _, hf => by simp at hf
structure PanInv (ops : List Oper) (F : List (Nat × AV)) (fl : List Bool) (listed : Array Bool) (env : List (Nat × AV)) : Prop where
 size : listed.size = ops.length
 no : ∀ i, fl.getD i false = false → listed.getD i false = false
 old : ∀ t, (ops.all fun o => o.dst != some t) = true → lkV env t = lkV F t
 new : ∀ i o d, ops[i]? = some o → listed.getD i false = true → o.dst = some d → lkV env d = lkV F d
section
variable {P : Program} {E : Env} {Q : Exit → AS → Prop} {n : Nat} {F : List (Nat × AV)} {objs : List (Nat × AObj)}
theorem zNK {ρ : Option Nat} {ops : List Oper} {k : Nat} {o : Oper} (hk : ops[k]? = some o) {c : Call} (hop : o.op = .call c) {v : Value} {fl : List Bool} (hc : zDQ ops k fl = true) (hev : zVU P ⟨n, F, objs⟩ ops fl)
    (hp : ∃ f avs, zVD P c.callee (AS.ev ⟨n, F, objs⟩) (c.args.toList.map (AS.ev ⟨n, F, objs⟩)) = some (f, avs) ∧ y9 P f = true ∧ zVa P f v avs (AS.obj ⟨n, F, objs⟩) (AS.nx ⟨n, F, objs⟩) (fun wr => ∀ env, Q (.panic (zUt v)) ((⟨n, env, objs⟩ : AS).writes wr))) :
    ∀ (fuel : Nat) (listed : Array Bool) (env : List (Nat × AV)) (a : Act) (w : World) (γ : Gh), PanInv ops F fl listed env → ((List.range ops.length).filter fun i => !listed.getD i true).length ≤ fuel →
      St E ⟨n, env, objs⟩ a w γ → zVO (Cur.way P) ρ ops.toArray (zUr E Q) fuel listed a w γ := by
  unfold zDQ at hc
  simp only [Bool.and_eq_true, decide_eq_true_eq, Bool.not_eq_true'] at hc
  obtain ⟨⟨⟨hkl, hkf⟩, hed⟩, hall⟩ := hc
  have hkf' : fl.getD k false = false := by
    rcases Nat.lt_or_ge k fl.length with h | h
    · simp [h] at hkf ⊢; exact hkf
    · simp [List.getElem?_eq_none h]
  have hedge : ∀ j (hj : j < ops.length) e, e ∈ (ops[j]).after → Region.binds .any e = true → e.on < j := by
    intro j hj e he hb
    unfold J3 at hed
    rw [List.all_eq_true] at hed
    have h1 := hed j (by simpa using hj)
    rw [w4 hj, Array.all_eq_true_iff_forall_mem] at h1
    have h2 := h1 e he
    rw [hb] at h2
    simpa using h2
  have hrow : ∀ i (hi : i < ops.length), (ops[i]).guard = none ∧ (if (fl.getD i false || i == k) = true then (((ops[i]).looksAt ops.toArray).all fun t => (ops.all fun o => o.dst != some t) || (ops[i]).after.toList.any fun e => Region.binds .any e && (decide (e.on < ops.length) && (ops.getD e.on default).dst == some t)) = true
      else ((ops[i]).after.toList.any fun e => Region.binds .any e && !(fl.getD e.on true)) = true) := by
    intro i hi
    rw [List.all_eq_true] at hall
    have h1 := hall i (by simpa using hi)
    rw [w4 hi, Bool.and_eq_true] at h1
    refine ⟨by simpa using h1.1, ?_⟩
    have h2 := h1.2
    split at h2
    · rw [if_pos (by assumption)]; exact h2
    · rw [if_neg (by assumption)]; exact h2
  have hdone : ∀ (listed : Array Bool), listed.size = ops.length → Region.ready .any ops.toArray listed = [] → ∀ i, i < ops.length → listed.getD i false = true := by
    intro listed hsz hr i
    induction i using Nat.strongRecOn with
    | _ i ih =>
      intro hi
      by_cases hn : listed.getD i false = true
      · exact hn
      · exfalso
        have hmem : i ∈ Region.ready .any ops.toArray listed := by
          rw [mem_ready]
          refine ⟨?_, ops[i], by simp [hi], fun e he hb => ih e.on (hedge i hi e he hb) (by have := hedge i hi e he hb; omega)⟩
          have : i < listed.size := by omega
          simp [this] at hn ⊢; exact hn
        rw [hr] at hmem; cases hmem
  have hnr : ∀ (listed : Array Bool) env, PanInv ops F fl listed env → Region.ready .any ops.toArray listed ≠ [] := fun listed env hI hr => by
    have h1 := hdone listed hI.size hr k hkl
    rw [hI.no k hkf'] at h1; cases h1
  intro fuel
  induction fuel with
  | zero =>
    intro listed env a w γ hI hun hst
    exfalso
    have hnil := List.eq_nil_of_length_eq_zero (Nat.le_zero.1 hun)
    have h0 := hI.no k hkf'
    have hks : k < listed.size := by rw [hI.size]; exact hkl
    have : k ∈ (List.range ops.length).filter fun i => !listed.getD i true := List.mem_filter.2 ⟨by simpa using hkl, by simp [hks] at h0 ⊢; exact h0⟩
    rw [hnil] at this; cases this
  | succ fuel ih =>
    intro listed env a w γ hI hun hst
    refine ⟨fun hr => absurd hr (hnr listed env hI), fun j hj => ?_⟩
    obtain ⟨hj0, oj, ho, hedg⟩ := mem_ready.1 hj
    have hjl : j < ops.length := by simpa using (Array.getElem?_eq_some_iff.1 ho).1
    have hoe : ops[j] = oj := by simpa [hjl] using ho
    have hjs : j < listed.size := by rw [hI.size]; exact hjl
    obtain ⟨hg, hch⟩ := hrow j hjl
    rw [hoe] at hg hch
    have hlook : (fl.getD j false || j == k) = true → ∀ t, t ∈ oj.looksAt ops.toArray → lkV env t = lkV F t := by
      intro hf t ht
      rw [if_pos hf, List.all_eq_true] at hch
      have h1 := hch t ht
      rw [Bool.or_eq_true] at h1
      rcases h1 with h1 | h1
      · exact hI.old t h1
      · rw [List.any_eq_true] at h1
        obtain ⟨e, he, h2⟩ := h1
        simp only [Bool.and_eq_true, decide_eq_true_eq, beq_iff_eq] at h2
        obtain ⟨hb, hel, hd⟩ := h2
        rw [w4 hel] at hd
        exact hI.new e.on _ t (List.getElem?_eq_getElem hel) (hedg e (by simpa using he) hb) hd
    have hwant : Region.wanted oj (yielded ops.toArray a.tmps) = true := by unfold Region.wanted; rw [hg]
    have hstep : opM (Cur.way P) ρ ops.toArray (zUr E Q) j (zVO (Cur.way P) ρ ops.toArray (zUr E Q) fuel (listed.setIfInBounds j true)) a w γ = Z0 (Cur.way P) ρ oj (zVO (Cur.way P) ρ ops.toArray (zUr E Q) fuel (listed.setIfInBounds j true)) (zUr E Q) a w γ := by
      unfold opM
      rw [ho]
      simp only [hwant, if_true]
    rw [hstep]
    have hevx : (fl.getD j false || j == k) = true → ∀ x, x ∈ oj.op.operands → AS.ev ⟨n, env, objs⟩ x = AS.ev ⟨n, F, objs⟩ x := fun hf x hx => by
      cases x with
      | tmp t => exact hlook hf t (zGD hx)
      | _ => rfl
    by_cases hjk : j = k
    · subst hjk
      have e : oj = o := by
        rw [List.getElem?_eq_getElem hjl, hoe] at hk
        exact Option.some.inj hk
      subst e
      obtain ⟨f, avs, h1, h2, h3⟩ := hp
      have hx := hevx (by simp)
      have hargs : ∀ x, x ∈ c.args.toList → AS.ev ⟨n, env, objs⟩ x = AS.ev ⟨n, F, objs⟩ x := fun x hx' => hx x (by rw [hop]; simp only [Op.operands, Call.operands]; cases c.callee <;> simp_all)
      refine zGd hst hop (f := f) (avs := avs) (nx := AS.nx ⟨n, F, objs⟩) (v := v) (K := fun wr => ∀ env, Q (.panic (zUt v)) ((⟨n, env, objs⟩ : AS).writes wr)) ?_ h2 h3 (fun wr a' w' γ' hK hst' => ⟨_, hK env, hst'⟩)
      have ha : c.args.toList.map (AS.ev ⟨n, env, objs⟩) = c.args.toList.map (AS.ev ⟨n, F, objs⟩) := List.map_congr_left fun x hx' => hargs x hx'
      rw [ha]
      rw [← h1]
      unfold zVD
      cases hcc : c.callee with
      | value fo => simp only [hx fo (by rw [hop]; simp [Op.operands, Call.operands, hcc])]
      | invoke r m => simp only [hx r (by rw [hop]; simp [Op.operands, Call.operands, hcc])]
      | builtin b => rfl
    · by_cases hf : fl.getD j false = true
      · have hev1 := zCc hev (i := j) (o := oj) (by rw [List.getElem?_eq_getElem hjl, hoe]) hf
        have hx := hevx (by rw [hf]; rfl)
        refine zAd (nx := AS.nx ⟨n, F, objs⟩) hst (zEx (ev := AS.ev ⟨n, F, objs⟩) hx hev1.2) (fun d hd => ?_) ?_
        · have := hev1.1
          rw [hd] at this
          exact this
        · rintro x rd wr a' w' γ' ⟨rfl, hx'⟩ hst'
          have hsetL : ∀ i, (listed.setIfInBounds j true).getD i false = if i = j then true else listed.getD i false := fun i => by
            by_cases e : i = j
            · subst e; simp [hjs]
            · rw [if_neg e, getD_set_ne false (fun h => e h.symm)]
          have hlt : ((List.range ops.length).filter fun i => !(listed.setIfInBounds j true).getD i true).length < ((List.range ops.length).filter fun i => !listed.getD i true).length := by
            have hsub : ((List.range ops.length).filter fun i => !(listed.setIfInBounds j true).getD i true) = ((List.range ops.length).filter fun i => !listed.getD i true).filter (fun i => decide (i ≠ j)) := by
              rw [List.filter_filter]
              apply List.filter_congr
              intro i _
              by_cases e : i = j
              · subst e; simp [hjs]
              · rw [getD_set_ne true (fun h => e h.symm)]; simp [e]
            rw [hsub]
            have hmem : j ∈ (List.range ops.length).filter fun i => !listed.getD i true := List.mem_filter.2 ⟨by simpa using hjl, by rw [hj0]; rfl⟩
            refine Nat.lt_of_le_of_ne (List.length_filter_le _ _) (fun e => ?_)
            have := (List.length_filter_eq_length_iff.1 e) j hmem
            simp at this
          have hno : ∀ i, fl.getD i false = false → (listed.setIfInBounds j true).getD i false = false := fun i hi => by
            rw [hsetL, if_neg]
            · exact hI.no i hi
            · rintro rfl; rw [hi] at hf; cases hf
          cases hd : oj.dst with
          | none =>
            rw [hd] at hst'
            refine ih _ env a' w' γ' ⟨by simpa using hI.size, hno, hI.old, fun i o d h1 h2 h3 => ?_⟩ (by omega) hst'
            rw [hsetL] at h2
            by_cases e : i = j
            · subst e
              rw [List.getElem?_eq_getElem hjl, hoe] at h1
              cases h1
              rw [hd] at h3; cases h3
            · rw [if_neg e] at h2
              exact hI.new i o d h1 h2 h3
          | some d =>
            rw [hd] at hst' hx'
            have hx' : lkV F d = x := hx'
            have hst' : St E ⟨n, (d, x) :: env, objs⟩ a' w' γ' := hst'
            refine ih _ ((d, x) :: env) a' w' γ' ⟨by simpa using hI.size, hno, fun t ht => ?_, fun i o d' h1 h2 h3 => ?_⟩ (by omega) hst'
            · simp only [lkV]
              rw [if_neg]
              · exact hI.old t ht
              · rintro rfl
                rw [List.all_eq_true] at ht
                have := ht oj (by rw [← hoe]; exact List.getElem_mem hjl)
                rw [hd] at this
                simp at this
            · simp only [lkV]
              by_cases e1 : d = d'
              · subst e1; rw [if_pos rfl]; exact hx'.symm
              · rw [if_neg e1]
                rw [hsetL] at h2
                by_cases e : i = j
                · subst e
                  rw [List.getElem?_eq_getElem hjl, hoe] at h1
                  cases h1
                  rw [hd] at h3; cases h3; exact absurd rfl e1
                · rw [if_neg e] at h2
                  exact hI.new i o d' h1 h2 h3
      · exfalso
        have hf' : fl.getD j false = false := by simpa using hf
        rw [if_neg (by rw [hf']; simpa using hjk), List.any_eq_true] at hch
        obtain ⟨e, he, h2⟩ := hch
        simp only [Bool.and_eq_true, Bool.not_eq_true'] at h2
        have h3 := hedg e (by simpa using he) h2.1
        have h4 : fl.getD e.on false = false := by
          have h5 := h2.2
          rcases Nat.lt_or_ge e.on fl.length with h | h
          · simp [h] at h5 ⊢; exact h5
          · simp [List.getElem?_eq_none h]
        rw [hI.no e.on h4] at h3; cases h3
theorem zF5 {t : Nat} : ∀ (vals env : List (Nat × AV)), (∀ d, d ∈ vals.map (·.1) → d ≠ t) → lkV (vals ++ env) t = lkV env t
 | [], _, _ => rfl
 | (d, x) :: r, env, h => by
  simp only [List.cons_append, lkV]
  rw [if_neg (h d (by simp)), zF5 r env (fun d' hd => h d' (by simp only [List.map_cons, List.mem_cons]; exact .inr hd))]
theorem zN8 {σ : AS} {p : List Nat} {b : Code} {id : Nat} {ops : List Oper} (k : Nat) (fl : List Bool) (ds : List Nat) (vals : List (Nat × AV)) (h : sub p b = .region id ops.toArray true) (hm : P.follows .mixedOrders = true) {o : Oper} (hk : ops[k]? = some o) {c : Call} (hop : o.op = .call c) {v : Value}
  (hc : zDQ ops k fl = true) (hds : (ds.all fun d => ops.any fun o => o.dst == some d) = true) (hv : vals.map (·.1) = ds) (hev : zVU P ⟨σ.n, vals ++ σ.env, σ.objs⟩ ops fl)
  (hp : ∃ f avs, zVD P c.callee (AS.ev ⟨σ.n, vals ++ σ.env, σ.objs⟩) (c.args.toList.map (AS.ev ⟨σ.n, vals ++ σ.env, σ.objs⟩)) = some (f, avs) ∧ y9 P f = true ∧
   zVa P f v avs (AS.obj ⟨σ.n, vals ++ σ.env, σ.objs⟩) (AS.nx ⟨σ.n, vals ++ σ.env, σ.objs⟩) (fun wr => ∀ env, Q (.panic (zUt v)) ((⟨σ.n, env, σ.objs⟩ : AS).writes wr))) : Hold P E (sub p b) Q σ := by
 rw [h]
 intro a w γ hs
 refine zIA hm fun w₁ hr => ?_
 have hg := hs.rely hr
 have hs2 := hg.rely (w₁ := { w₁ with drawn := w₁.drawn + 1 }) ⟨hr.wf', rfl, rfl, rfl, Nat.le_refl _, fun _ _ => rfl, fun _ _ h => h⟩
 have hf : ∀ i, (Array.replicate ops.toArray.size false).getD i false = false := fun i => by
  by_cases hi : i < ops.length <;> simp [hi]
 have := zNK (ρ := none) (E := E) (Q := Q) hk hop hc hev hp ops.length (Array.replicate ops.toArray.size false) σ.env a { w₁ with drawn := w₁.drawn + 1 } γ
  ⟨by simp, fun i _ => hf i, fun t ht => ?_, fun i o d _ h2 _ => by rw [hf i] at h2; cases h2⟩ (Nat.le_trans (List.length_filter_le _ _) (by simp)) hs2
 ·simpa using this
 ·refine (zF5 vals σ.env fun d hd e => ?_).symm
  subst e
  rw [hv] at hd
  rw [List.all_eq_true] at hds
  have h1 := hds d hd
  rw [List.any_eq_true] at h1
  obtain ⟨o', ho', h2⟩ := h1
  rw [List.all_eq_true] at ht
  have := ht o' ho'
  simp only [beq_iff_eq] at h2
  rw [h2] at this
  simp at this
end
end Go.Abs

namespace Go.Abs
open Go Go.Proofs Tryz
variable [Cur]
attribute [go_sem] Nat.mul_one List.length_set Nat.le_refl Nat.sub_zero
@[go_sem] theorem zTU (n : Nat) : ((n : Int) < 2) = (n < 2) := by simp; omega
@[go_sem] theorem zTJ : ((0 : Nat) : Int) = 0 := rfl
@[go_sem] theorem zTK : ((1 : Nat) : Int) = 1 := rfl
@[go_sem] theorem zTL : ((2 : Nat) : Int) = 2 := rfl
@[go_sem] theorem zTM : ((3 : Nat) : Int) = 3 := rfl
@[go_sem] theorem zTN : ((4 : Nat) : Int) = 4 := rfl
@[go_sem] theorem zTO : ((5 : Nat) : Int) = 5 := rfl
@[go_sem] theorem zTP : ((6 : Nat) : Int) = 6 := rfl
@[go_sem] theorem zTQ : ((7 : Nat) : Int) = 7 := rfl
@[go_sem] theorem zTR : ((8 : Nat) : Int) = 8 := rfl
@[go_sem] theorem zUE {α β : Type} (f : α → β) (l : List α) : (l.map f).take l.length = l.map f := List.take_of_length_le (by simp)
@[go_sem] theorem zSr (H : Nat → AObj) (n : Nat) (f : Fn) (a b : Array Value) : zUO H (n + 1) (.raw (.func f a b)) = (.raw (.func f a b), []) := rfl
end Go.Abs

namespace Go.Abs
open Go Go.Proofs Tryz
variable [Cur]
attribute [go_sem] List.take_length List.length_drop
section
variable {P : Program} {E : Env} {Q : Exit → AS → Prop} {σ : AS} {p : List Nat} {b c : Code} {l : Nat}
def D2 : Code → Code
 | .rangeFunc _ _ a _ => a
 | _ => .skip
def D3 : Code → Code
 | .rangeFunc _ _ _ b => b
 | _ => .skip
def zMD : Code → Option (Operand × Array Tmp)
 | .rangeFunc g ps _ _ => some (g, ps)
 | _ => none
theorem o8 {id : Nat} {ops : List Oper} (h : c = .region id ops.toArray false) (hx : q9 P ops (fun σ' _ => Q .normal σ') ops σ []) : HoldR l P E c Q σ := by rw [h]; exact zLl hx
theorem L3 {id : Nat} (h : zFo c = some id) (hx : HoldR l P E (O3 0 c) (z5 id Q) σ) : HoldR l P E c Q σ := by
 cases c with
 | block i c => cases h; exact zLi hx
 | _ => cases h
theorem zAz {g : Operand} {ps : Array Tmp} (h : zMD (sub p b) = some (g, ps)) {f : FuncId} {caps : List AV} (hg : σ.ev g = .fn f caps) (hc : y9 P f = true) {nx : Nat} (hnx : σ.obj nx = .unb)
  (hx : ∀ fn, ∃ nx', y2 P f (.yld nx :: caps) (σ.setO nx (.loopo ⟨fn, ps, D2 (sub p b), D3 (sub p b), σ.n⟩ σ.env (some none))).obj nx' (fun _ _ wr => zGi P E Q nx ((σ.setO nx (.loopo ⟨fn, ps, D2 (sub p b), D3 (sub p b), σ.n⟩ σ.env (some none))).writes wr))) : Hold P E (sub p b) Q σ := by
 cases hq : sub p b with
 | rangeFunc g' ps' a b' =>
  rw [hq] at h hx; cases h
  exact zLw hg hc hnx hx
 | _ => rw [hq] at h; cases h
theorem D6 {id : Nat} {ops : List Oper} (k : Nat) (h : sub p b = .region id ops.toArray false) {o : Oper} (hk : ops[k]? = some o) {fo : Operand} {args : Array Operand} {ts : Array TypeId} (hop : o.op = .call ⟨.value fo, args, ts⟩)
  (hx : q9 P ops (fun σ1 _ => l5 ops σ1 o
   ((match o.dst with | some d => ltN d σ1.n | none => True) ∧ G3 P (σ1.ev fo) (args.toList.map σ1.ev) σ1.obj σ1.nx (fun v _ wr => q9 P ops (fun σ' _ => Q .normal σ') (ops.drop (k + 1)) ((σ1.writes wr).putD o.dst v) []))
   ((match o.dst with | some d => ltN d σ1.n | none => True) ∧ q9 P ops (fun σ' _ => Q .normal σ') (ops.drop (k + 1)) (σ1.putD o.dst (.tup [])) [])) (ops.take k) σ []) : Hold P E (sub p b) Q σ := by
 obtain ⟨hlt, he⟩ := List.getElem?_eq_some_iff.1 hk
 have e : ops = ops.take k ++ o :: ops.drop (k + 1) := by
  rw [← he, ← List.drop_eq_getElem_cons hlt, List.take_append_drop]
 obtain ⟨pre, hpre⟩ : ∃ pre, pre = ops.take k := ⟨_, rfl⟩
 obtain ⟨post, hpost⟩ : ∃ post, post = ops.drop (k + 1) := ⟨_, rfl⟩
 rw [← hpre, ← hpost] at e hx
 rw [h]
 clear h hk he hlt hpre hpost
 subst e
 exact zL1 hop hx
end
theorem zCs {all : List Oper} {σ : AS} {o : Oper} {j d : Nat} {want : Bool} {Y N : Prop} (hg : o.guard = some (j, want)) (hj : (all[j]?).bind (·.dst) = some d) (hv : σ.get d = .raw (.bool want)) (h : Y) : l5 all σ o Y N := by
 unfold l5
 rw [hg]
 simp only [hj, hv]
 show gIf want want Y N
 unfold gIf
 exact ⟨fun _ => h, fun e => by cases want <;> cases e⟩
theorem zCr {all : List Oper} {σ : AS} {o : Oper} {j d : Nat} {want : Bool} {Y N : Prop} (hg : o.guard = some (j, want)) (hj : (all[j]?).bind (·.dst) = some d) (hv : σ.get d = .raw (.bool !want)) (h : N) : l5 all σ o Y N := by
 unfold l5
 rw [hg]
 simp only [hj, hv]
 show gIf (!want) want Y N
 unfold gIf
 exact ⟨fun e => (by cases want <;> cases e), fun _ => h⟩
theorem zBB {P : Program} {y : AV} {avs : List AV} {H : Nat → AObj} {nx : Nat} {K : Cont} {oid : Nat} (ids ex : List Nat) {args : List AV} {fp : List AObj} {r : AV} {out : List AObj} (sp : Y4 P args fp r out)
  (hy : y = .yld oid) (hh : ids.head? = some oid) (h1 : ids.Nodup) (h2 : XpL H (ids.map some) ex args avs) (h3 : fpsF H (ids.map some) ex fp ids) (h4 : ∀ o, o ∈ ex → o ∉ ids) (h5 : ex = [] ∨ (Scal r ∧ ∀ A, A ∈ out → C1 A))
  (h6 : ∀ j, j < out.length - ids.length → H (nx + j) = .unb) (h7 : ∀ A, A ∈ out → A ≠ .unb) (hk : K (r.ren (x9 ids nx)) (ids ++ ex ++ W9 ids nx out) (u7 ids nx out)) : G3 P y avs H nx K := by
 refine ⟨oid, ids, ex, args, fp, r, out, hy, hh, ⟨sp, h1, h4, ?_, (fpsF.sound h3).1, fun k h => ?_, h5, h6, h7⟩, hk⟩
 ·rw [← N5]; exact XpL.all2 h2
 ·rw [← N5]; exact (fpsF.sound h3).2 k h
theorem M5 {P : Program} {f : FuncId} {avs as' args : List AV} {H : Nat → AObj} {nx : Nat} {K : Cont} {r : AV} {fp out : List AObj} (ids gone : List Nat) (sp : zUL P f args fp r out) (ha : (avs.map fun x => (zUO H 3 x).1) = as') (hg : (avs.map fun x => (zUO H 3 x).2).flatten = gone)
  (h1 : ids.Nodup) (h2 : XpL (fun o => if o ∈ gone then .dead else H o) (ids.map some) [] args as') (h3 : fpsF (fun o => if o ∈ gone then .dead else H o) (ids.map some) [] fp ids)
  (h6 : ∀ j, j < out.length - ids.length → (if nx + j ∈ gone then AObj.dead else H (nx + j)) = .unb) (h7 : ∀ A, A ∈ out → A ≠ .unb)
  (hk : K (r.ren (x9 ids nx)) (gone ++ (ids ++ W9 ids nx out)) (w5 gone ++ u7 ids nx out)) : y2 P f avs H nx K := by
 refine zEZ ?_
 rw [ha, hg]
 exact zCN ids [] sp h1 h2 h3 (by simp) (.inl rfl) h6 h7 (by simpa using hk)
section
variable {P : Program} {E : Env} {Q : Exit → AS → Prop} {σ : AS} {c : Code} {l : Nat}
theorem T2 (h : zBa c = true) (hx : HoldR l P E (O3 0 c) (z6 (HoldR l P E (O3 1 c) Q) Q) σ) : HoldR l P E c Q σ := by
 cases c with
 | seq x y => exact zLm hx
 | _ => cases h
theorem N4 {o : Operand} {t : Bool} (h : zCy c = some o) (ht : σ.ev o = .raw (.bool t)) (h1 : t = true → HoldR l P E (O3 0 c) Q σ) (h2 : t = false → HoldR l P E (O3 1 c) Q σ) : HoldR l P E c Q σ := by
 cases c with
 | cond o' x y => cases h; exact zLj ht h1 h2
 | _ => cases h
theorem zAJ (h : c = .skip) (hx : Q .normal σ) : HoldR l P E c Q σ := by rw [h]; exact zLn hx
theorem zNT {id : Nat} (h : c = .exit id) (hx : Q (.exit id) σ) : HoldR l P E c Q σ := by rw [h]; exact zLk hx
end
section
variable {P : Program} {E : Env} {I : Nat → Prop} {loc : Nat → Loc} {σ : AS} {a : Act} {w : World} {l0 : Nat}
theorem zNU {Q : Exit → AS → Prop} {c : Code} {id : Nat} {ops : List Oper} (k : Nat) (h : c = .region id ops.toArray false) {o : Oper} (hk : ops[k]? = some o) {fo : Operand} {args : Array Operand} {ts : Array TypeId} (hop : o.op = .call ⟨.value fo, args, ts⟩)
  (hx : q9 P ops (fun σ1 _ => l5 ops σ1 o
   ((match o.dst with | some d => ltN d σ1.n | none => True) ∧ G3 P (σ1.ev fo) (args.toList.map σ1.ev) σ1.obj σ1.nx (fun v _ wr => q9 P ops (fun σ' _ => Q .normal σ') (ops.drop (k + 1)) ((σ1.writes wr).putD o.dst v) []))
   ((match o.dst with | some d => ltN d σ1.n | none => True) ∧ q9 P ops (fun σ' _ => Q .normal σ') (ops.drop (k + 1)) (σ1.putD o.dst (.tup [])) [])) (ops.take k) σ []) : HoldR l0 P E c Q σ := by
 obtain ⟨hlt, he⟩ := List.getElem?_eq_some_iff.1 hk
 have e : ops = ops.take k ++ o :: ops.drop (k + 1) := by
  rw [← he, ← List.drop_eq_getElem_cons hlt, List.take_append_drop]
 obtain ⟨pre, hpre⟩ : ∃ pre, pre = ops.take k := ⟨_, rfl⟩
 obtain ⟨post, hpost⟩ : ∃ post, post = ops.drop (k + 1) := ⟨_, rfl⟩
 rw [← hpre, ← hpost] at e hx
 rw [h]
 clear h hk he hlt hpre hpost
 subst e
 exact zLo hop hx
end
end Go.Abs

namespace Go.Abs
open Go Go.Proofs Go.Proofs.YtoodnahaohmmkaaGreatDoor Go.ChangeShapes Go.WideShapes Go.ChangeAt Go.RowKit
theorem zWK : ownKnob Tryz.prog.godebug = none := by kernel_rfl
theorem zTC : laidOutB Tryz.prog = true := by kernel_rfl
abbrev zV0 (w : World) : Nat → Prop := fun b => b < w.heap.size
abbrev zEE (w : World) : Prop := V7 w
theorem zSa {f : FuncId} {args : List AV} (sp : @zUL T0 Tryz.prog f args [] (bV true) []) (w : World) (vs : Array Value) (hl : vs.size = args.length) (hv : ∀ i (h : i < args.length) (h' : i < vs.size), PR w (zV0 w) args[i] vs[i]) (hlaid : zEE w := by (intro p hp; simp [zB8] at hp)) :
  Calls Tryz.prog f vs w fun e w' => e = .returned (.bool true) ∧ Below w.heap.size w w' :=
 letI : Cur := T0
 (zGA sp hlaid hl (fun i h h' => .pure (hv i h h'))).mono fun e w' ⟨v, I', loc', he, hp, hb⟩ => by
  have hr := hp.raw_eq
  subst hr
  exact ⟨he, hb⟩
theorem zM9 {H : Type} (d : DataW H) : 1 ≤ Rows.uptoBulk d := by
 cases d with
 | lit l => cases l <;> simp [Rows.uptoBulk]
 | _ => simp [Rows.uptoBulk]
theorem length_le {H : Type} (l : List (DataW H)) : l.length ≤ Rows.uptoBulkAll l := by
 induction l with
 | nil => simp [Rows.uptoBulkAll]
 | cons x r ih => have := zM9 x; simp only [Rows.uptoBulkAll, List.length_cons]; omega
theorem zRy {H : Type} {enc : TypeId × Value → H} {W : World} {v : Value} {d : DataW H} {ps : List MemPlace} (hval : Value.okWide Tryz.prog W .any 0 22 v ∨ ∃ base, Value.okWide Tryz.prog W .any base 22 v)
    (h : DataW.Trod enc Tryz.prog W 0 (fun _ => true) true 22 v d ps) (hk : Rows.uptoBulk d ≤ 1048576) : ∃ l : List Int, PR W (zV0 W) (.list (l.map iV)) v ∧ l.length ≤ 1048576 := by
  have hsl : ∃ a len cap, v = .slice a len cap := by
    rcases hval with hval | ⟨base, hval⟩
    · exact okWide_slice Tryz.underlying22 hval
    · exact okWide_slice Tryz.underlying22 hval
  obtain ⟨a, len, cap, rfl⟩ := hsl
  obtain ⟨fuel, hf⟩ := h
  have hc : Tryz.prog.cellsOf 3 = 1 := by kernel_rfl
  rcases open_ints Tryz.underlying22 Tryz.underlying3 hc hf with ⟨hcs, _⟩ | ⟨a0, len0, cap0, zs, hcs, _, hle, hm, hz, hx, hcell, hwz⟩
  · have e : Value.slice a len cap = .slice none 0 0 := by simpa [Value.cells] using hcs
    rw [e]
    exact ⟨[], .nil _ _, by simp⟩
  · have e : Value.slice a len cap = .slice (some a0) len0 cap0 := by simpa [Value.cells] using hcs
    rw [e]
    simp only [if_true] at hz
    have hd := congrArg Prod.fst hx
    simp only at hd
    subst hd
    have hlen : (zs.take len0).length = len0 := by simp; omega
    refine ⟨zs.take len0, ?_, ?_⟩
    · by_cases h0 : len0 = 0
      · subst h0; exact .nil _ _
      · have h1 := hcell 0 (by omega)
        have hspot : a0.spot = none := by
          unfold World.cell? at h1
          split at h1
          · split at h1
            · cases h1
            · rename_i hs
              simpa [Addr.add] using hs
          · cases h1
        have hblk : a0.block < W.heap.size := by
          unfold World.cell? at h1
          split at h1
          · rename_i hb
            have := (Array.getElem?_eq_some_iff.1 hb).1
            simpa [Addr.add] using this
          · cases h1
        obtain ⟨b, off, sp⟩ := a0
        simp only at hspot hblk
        subst hspot
        have key := PR.list (w := W) (I := zV0 W) b off cap0 1 ((zs.take len0).map iV) (fun i _ => .int .i64 (zs.getD i 0)) hblk (by omega) (by simp; omega) (fun i hi => by simp [AV.cells])
          (fun i j hi hj => by
            have hi' : i < zs.length := by simp at hi; omega
            have := hcell i hi'
            have hj0 : j = 0 := by omega
            subst hj0
            have ea : (⟨b, off, none⟩ : Addr).add i = ⟨b, off + i * 1 + 0, none⟩ := by
              unfold Addr.add
              split
              · rename_i h; subst h; simp
              · simp
            rw [ea] at this; exact this)
          (fun i hi j hj => by
            have hi' : i < zs.length := by simp at hi; omega
            have hj0 : j = 0 := by simp [AV.cells] at hj; omega
            subst hj0
            have e2 : (((zs.take len0).map iV)[i]).cells[0] = iV (zs.getD i 0) := by simp [AV.cells, List.getD, hi']
            rw [e2]
            exact .raw _ rfl)
        rw [List.length_map, hlen] at key
        exact key
    · have h1 : (zs.take len0).length ≤ Rows.uptoBulkAll (H := H) (lits .i64 (zs.take len0)) := by
        have := length_le (H := H) (lits .i64 (zs.take len0))
        simpa [lits] using this
      simp only [Rows.uptoBulk] at hk
      omega
end Go.Abs

namespace Go.Abs
open Go Go.Proofs Go.Proofs.YtoodnahaohmmkaaGreatDoor
theorem zMS {P : Program} {w : World} {a b c : String × DataW Unit} (h : laidMet P [a, c, b] w) : laidMet P [a, b, c] w := by
 obtain ⟨ps, hv, hn, hr⟩ := h
 obtain ⟨n1, d1⟩ := a
 obtain ⟨n2, d2⟩ := b
 obtain ⟨n3, d3⟩ := c
 obtain ⟨g1, t1, c1, f1, p1, q1, a1, b1, v1, r1, ⟨g3, t3, c3, f3, p3, q3, a3, b3, v3, r3, ⟨g2, t2, c2, f2, p2, q2, a2, b2, v2, r2, e2, rfl⟩, rfl⟩, rfl⟩ := hv
 cases (show q2 = [] from e2)
 have hp : ((MemPlace.row ⟨g1, 0, none⟩ c1.size ++ p1) ++ ((MemPlace.row ⟨g3, 0, none⟩ c3.size ++ p3) ++ ((MemPlace.row ⟨g2, 0, none⟩ c2.size ++ p2) ++ []))).Perm ((MemPlace.row ⟨g1, 0, none⟩ c1.size ++ p1) ++ ((MemPlace.row ⟨g2, 0, none⟩ c2.size ++ p2) ++ ((MemPlace.row ⟨g3, 0, none⟩ c3.size ++ p3) ++ []))) := by
  simp only [List.append_nil]
  exact List.Perm.append_left _ List.perm_append_comm
 exact ⟨_, ⟨g1, t1, c1, f1, p1, _, a1, b1, v1, r1, ⟨g2, t2, c2, f2, p2, _, a2, b2, v2, r2, ⟨g3, t3, c3, f3, p3, [], a3, b3, v3, r3, rfl, rfl⟩, rfl⟩, rfl⟩, hp.nodup_iff.1 hn, fun b off hm => hr b off (hp.mem_iff.2 hm)⟩
def laysC_ren : Go.Shelf.Ren := ⟨fun | 274 => 210 | n => n, fun | 46 => 145 | 51 => 352 | 160 => 353 | 162 => 322 | 206 => 377 | 208 => 379 | n => n, fun | 13 => 2 | n => n⟩
theorem zMW : Go.Proofs.Lays.n274 Tryz.prog laysC_ren := {
 mixed := by kernel_rfl
 f274 := Tryz.func210.trans (congrArg some (by kernel_rfl))
 t0 := Tryz.underlying0
 a0 := Tryz.isAgg0
 z0 := Tryz.sizeOf0
 v0 := Tryz.zeroValue0
 t3 := Tryz.underlying3
 a3 := Tryz.isAgg3
 z3 := Tryz.sizeOf3
 v3 := Tryz.zeroValue3
 t4 := Tryz.underlying4
 a4 := Tryz.isAgg4
 z4 := Tryz.sizeOf4
 v4 := Tryz.zeroValue4
 t21 := Tryz.underlying21
 a21 := Tryz.isAgg21
 z21 := Tryz.sizeOf21
 v21 := Tryz.zeroValue21
 t46 := Tryz.underlying145
 a46 := Tryz.isAgg145
 z46 := Tryz.sizeOf145
 v46 := Tryz.zeroValue145
 t51 := Tryz.underlying352
 a51 := Tryz.isAgg352
 z51 := Tryz.sizeOf352
 v51 := Tryz.zeroValue352
 t160 := Tryz.underlying353
 a160 := Tryz.isAgg353
 z160 := Tryz.sizeOf353
 v160 := Tryz.zeroValue353
 t162 := Tryz.underlying322
 a162 := Tryz.isAgg322
 z162 := Tryz.sizeOf322
 v162 := Tryz.zeroValue322
 t208 := Tryz.underlying379
 a208 := Tryz.isAgg379
 z208 := Tryz.sizeOf379
 v208 := Tryz.zeroValue379
}
noncomputable def zMT (os : Os) : World :=
 let N := (World.settled Tryz.prog os).heap.size
 let w0 := World.holding Tryz.prog os ⟨#[.cells Lib.caseCells5 (laysC_ren.t 208)], #[], []⟩
 let put (h : Array Obj) (g : Nat) (cs : Array Value) : Array Obj := h.modify g fun
  | .cells _ t frozen => .cells cs t frozen
  | o => o
 let h1 := put w0.heap 3 (Lib.firstTab.map fun z => Value.int .u8 z).toArray
 let h2 := put h1 4 ((List.range 16).flatMap fun i => [Value.int .u8 (Lib.accLo i), Value.int .u8 (Lib.accHi i)]).toArray
 let h3 := put h2 2 #[.slice (some ⟨N, 0, none⟩) 336 336]
 { w0 with heap := h3 }
theorem zIS : (Rows.laid_unicode_utf8_acceptRanges : DataW Unit) = Lib.acceptData := by kernel_rfl
theorem zJb : Rows.laid_unicode_CaseRanges = Lib.caseData := by kernel_rfl
theorem zKa : Rows.laid_unicode_utf8_first = Lib.firstData := by kernel_rfl
theorem zTl : laidOutB Tryz.pinned.checked.prog = true := by kernel_rfl
theorem zTn : mapsRowed Tryz.pinned.checked.prog = true := by kernel_rfl
theorem zTo : (Tryz.pinned.checked.prog.stops == []) = true := by kernel_rfl
theorem zTk : (Tryz.pinned.checked.prog.stopKnobs == []) = true := by kernel_rfl
theorem zTj : Tryz.pinned.checked.prog.stopsHeard = true := by kernel_rfl
theorem zTi : Tryz.pinned.checked.prog.mayEnter = true := by kernel_rfl
theorem zTm : true = Tryz.pinned.checked.prog.looks [] := by kernel_rfl
end Go.Abs

namespace Go.Abs
open Go Go.Proofs Go.Proofs.YtoodnahaohmmkaaGreatDoor
abbrev zFf : Value := .iface 257 (.agg #[.pointer (some ⟨8, 169, none⟩)])
noncomputable def zMU (os : Os) : World :=
  let w := zMT os
  { w with heap := w.heap.modify 0 fun
      | .cells _ t frozen => .cells #[zFf] t frozen
      | o => o }
abbrev zC4 : List (String × DataW Unit) := [("unicode/utf8.acceptRanges", Rows.laid_unicode_utf8_acceptRanges), ("errors.errorType", Rows.laid_errors_errorType), ("unicode.CaseRanges", Rows.laid_unicode_CaseRanges), ("unicode/utf8.first", Rows.laid_unicode_utf8_first)]
theorem zTD (os : Os) (args : Array Value) : laidMetH Tryz.prog zC4 ((zMU os).forCall (fun _ _ => 0) ⟨#[], args, []⟩).memory := by
 refine laidMetH_of_parts ?_ (by kernel_rfl)
 show laidMet Tryz.prog [("unicode/utf8.acceptRanges", Rows.laid_unicode_utf8_acceptRanges), ("unicode.CaseRanges", Rows.laid_unicode_CaseRanges), ("unicode/utf8.first", Rows.laid_unicode_utf8_first)] _
 rw [zIS, zJb, zKa]
 refine zMS ?_
 exact laidMet_with_case (ρ := laysC_ren) zMW Tryz.underlying377 ⟨by kernel_rfl, by kernel_rfl, by kernel_rfl, by kernel_rfl, by kernel_rfl, by kernel_rfl⟩
  (l := [("unicode/utf8.acceptRanges", Lib.acceptData), ("unicode/utf8.first", Lib.firstData)])
  10 (by kernel_rfl) (by kernel_rfl) (by kernel_rfl) ((World.settled Tryz.prog default).heap.size) (laysC_ren.t 208) (of_decide_eq_true (by kernel_rfl)) (by kernel_rfl) (by kernel_rfl) (by kernel_rfl)
theorem zKI : Tryz.prog.globalNamed "errors.errorType" = some 0 := by kernel_rfl
theorem rt_type : (Tryz.prog.cutTypes.find? (·.1 == "internal/reflectlite.rtype")).map (·.2) = some 257 := by kernel_rfl
theorem zRG : Tryz.prog.types.size = 446 := by kernel_rfl
theorem zM8 : ((List.range 446).filter fun t => Tryz.prog.rowNamed t [101, 114, 114, 111, 114]) = [169] := by kernel_rfl
theorem zLd {W : World} (h : laidMetH Tryz.prog zC4 W) : W.cell? ⟨0, 0, none⟩ = some zFf := by
 have h' : laidMet Tryz.prog [("unicode/utf8.acceptRanges", Rows.laid_unicode_utf8_acceptRanges), ("unicode.CaseRanges", Rows.laid_unicode_CaseRanges), ("unicode/utf8.first", Rows.laid_unicode_utf8_first)] W ∧ handlesMet Tryz.prog [("errors.errorType", Rows.laid_errors_errorType)] W := h
 obtain ⟨name, u, ty, e1, e2, e3, e4, e5⟩ := h'.2 _ (List.mem_singleton.2 rfl)
 have en : name = [101, 114, 114, 111, 114] := (Option.some.inj e1).symm
 subst en
 obtain rfl := Option.some.inj (rt_type.symm.trans e2)
 have hm : ty ∈ (List.range 446).filter fun t => Tryz.prog.rowNamed t [101, 114, 114, 111, 114] := List.mem_filter.2 ⟨List.mem_range.2 (by rw [← zRG]; exact e3), e4⟩
 rw [zM8] at hm
 obtain rfl := List.mem_singleton.1 hm
 have hh : typeHandle Tryz.prog 169 = .pointer (some ⟨8, 169, none⟩) := by kernel_rfl
 rw [hh] at e5
 simpa using World.var?_cell zKI e5 0
theorem zTB {W : World} (h : laidMetH Tryz.prog zC4 W) : zEE W := fun p hp => by
 rw [List.mem_singleton.1 hp]; exact zLd h
end Go.Abs

namespace Go.Abs
open Go
theorem Valid.row {p : zVF} (v : Valid p) (s : Int) : Sound (zAv p s) := by
 unfold zAv
 by_cases h : s.toNat < p.length
 ·exact v.rows _ (u5 h)
 ·simp only [List.getD_eq_getElem?_getD, List.getElem?_eq_none (Nat.le_of_not_lt h), Option.getD_none]
  show Sound []
  exact ⟨by simp, fun x hx => by simp at hx, List.Pairwise.nil⟩
end Go.Abs

namespace Go.Abs
open Go
structure Fit (p : zVF) (c : Change) : Prop where
 kind : 1 ≤ c.kind ∧ c.kind ≤ 7
 street : 0 ≤ c.street ∧ c.street < p.length
 other : c.kind = 4 ∨ c.kind = 7 → 0 ≤ c.other ∧ c.other < p.length ∧ c.other ≠ c.street
 fits : zKc p c = 0
section
variable {p : zVF} {c : Change} {x : Plate}
end
end Go.Abs

namespace Go.Abs
open Go
end Go.Abs

namespace Go.Abs
open Go
def zU6 (n : Int) : Str := if n < 10 then [UInt8.ofNat (48 + n.toNat)] else [UInt8.ofNat (48 + n.toNat / 10), UInt8.ofNat (48 + n.toNat % 10)]
end Go.Abs

namespace Go.Abs
open Go
theorem zBi (n : Int) : 1 ≤ (zU6 n).length ∧ (zU6 n).length ≤ 2 := by
 unfold zU6; split <;> simp
end Go.Abs

namespace Go.Abs
open Go
abbrev v7 (a b : Str) : Bool := Op.bytesLess a b
theorem zDq (a b : UInt8) (x y : Str) : v7 (a :: x) (b :: y) = (decide (a < b) || (a == b && v7 x y)) := rfl
theorem zDr : ∀ a : Str, v7 a a = false
 | [] => rfl
 | a :: x => by rw [zDq, zDr x]; simp
theorem zDs : ∀ {a b c : Str}, v7 a b = true → v7 b c = true → v7 a c = true
 | [], [], _, h, _ => by cases h
 | [], _ :: _, [], _, h => by cases h
 | [], _ :: _, _ :: _, _, _ => rfl
 | _ :: _, [], _, h, _ => by cases h
 | _ :: _, _ :: _, [], _, h => by cases h
 | a :: x, b :: y, c :: z, h1, h2 => by
  rw [zDq, Bool.or_eq_true, Bool.and_eq_true, decide_eq_true_eq, beq_iff_eq] at h1 h2 ⊢
  rw [UInt8.lt_iff_toNat_lt] at h1 h2 ⊢
  rcases h1 with h1 | ⟨rfl, h1⟩
  ·rcases h2 with h2 | ⟨rfl, h2⟩
   ·exact .inl (by omega)
   ·exact .inl h1
  ·rcases h2 with h2 | ⟨rfl, h2⟩
   ·exact .inl h2
   ·exact .inr ⟨rfl, zDs h1 h2⟩
theorem zAO : ∀ {a b : Str}, v7 a b = false → v7 b a = false → a = b
 | [], [], _, _ => rfl
 | [], _ :: _, h, _ => by cases h
 | _ :: _, [], _, h => by cases h
 | a :: x, b :: y, h1, h2 => by
  rw [zDq, Bool.or_eq_false_iff] at h1 h2
  have e1 : ¬ a < b := by simpa using h1.1
  have e2 : ¬ b < a := by simpa using h2.1
  rw [UInt8.lt_iff_toNat_lt] at e1 e2
  have e : a = b := UInt8.toNat_inj.1 (by omega)
  subst e
  have g1 : v7 x y = false := by simpa using h1.2
  have g2 : v7 y x = false := by simpa using h2.2
  rw [zAO g1 g2]
theorem zDp {a b : Str} (h : v7 a b = true) : v7 b a = false := by
 cases e : v7 b a with
 | false => rfl
 | true => have := zDs h e; rw [zDr] at this; cases this
def zUR (a b : Str) : Int := if v7 a b = true then -1 else if v7 b a = true then 1 else 0
theorem cmpS_neg {a b : Str} : zUR a b < 0 ↔ v7 a b = true := by
 unfold zUR
 by_cases h : v7 a b = true
 ·rw [if_pos h]; simp [h]
 ·rw [if_neg h]
  split <;> simp [h]
theorem cmpS_zero {a b : Str} : zUR a b = 0 ↔ a = b := by
 unfold zUR
 constructor
 ·intro h
  by_cases h1 : v7 a b = true
  ·rw [if_pos h1] at h; cases h
  ·rw [if_neg h1] at h
   by_cases h2 : v7 b a = true
   ·rw [if_pos h2] at h; cases h
   ·exact zAO (by simpa using h1) (by simpa using h2)
 ·rintro rfl
  simp [zDr]
def x5 (c : UInt8) : Bool := decide (97 ≤ c.toNat) && decide (c.toNat ≤ 122)
def R0 (c : UInt8) : Bool := decide (65 ≤ c.toNat) && decide (c.toNat ≤ 90) && !(c == 72 || c == 81 || c == 87)
def t6 (c : UInt8) : Int := if x5 c = true then 1 else if R0 c = true then 2 else 0
def l7 (c : UInt8) : Str := if c = 67 then [99, 104] else if c = 74 then [106, 117] else if c = 88 then [115, 104] else if c = 89 then [106, 97] else if 65 ≤ c.toNat ∧ c.toNat ≤ 90 then [UInt8.ofNat (c.toNat + 32)] else [c]
def zUN (s : Str) : Str := s.flatMap l7
def X3 (s : Str) : Bool := s.all x5 || s.all R0
def v5 (s : Str) : Int := if s.length = 0 then 7 else if 6 < s.length then 10 else if X3 s = true then 0 else 2
structure ValidN (s : Str) : Prop where
 ne : 0 < s.length
 len : s.length ≤ 6
 form : X3 s = true
theorem checkN_zero {s : Str} : v5 s = 0 ↔ ValidN s := by
 unfold v5
 constructor
 ·intro h
  split at h
  ·cases h
  ·split at h
   ·cases h
   ·split at h
    ·rename_i h1 h2 h3; exact ⟨by omega, by omega, h3⟩
    ·cases h
 ·intro v
  have h1 := v.ne
  have h2 := v.len
  rw [if_neg (by omega), if_neg (by omega), if_pos v.form]
theorem zOS {c : UInt8} (h : x5 c = true) : l7 c = [c] := by
 unfold x5 at h
 rw [Bool.and_eq_true, decide_eq_true_eq, decide_eq_true_eq] at h
 have ne : ∀ d : UInt8, d.toNat < 97 → ¬ c = d := fun d hd e => by subst e; omega
 unfold l7
 rw [if_neg (ne 67 (by decide)), if_neg (ne 74 (by decide)), if_neg (ne 88 (by decide)), if_neg (ne 89 (by decide)), if_neg (by omega)]
theorem zFr : ∀ {s : Str}, s.all x5 = true → zUN s = s
 | [], _ => rfl
 | c :: r, h => by
  rw [List.all_cons, Bool.and_eq_true] at h
  show l7 c ++ zUN r = _
  rw [zOS h.1, zFr h.2]; rfl
theorem zHB (c : UInt8) : 1 ≤ (l7 c).length ∧ (l7 c).length ≤ 2 := by
 unfold l7
 repeat' split
 all_goals simp
theorem zC1 : ∀ s : Str, s.length ≤ (zUN s).length ∧ (zUN s).length ≤ 2 * s.length
 | [] => by simp [zUN]
 | c :: r => by
  have h1 := zHB c
  have h2 := zC1 r
  have e : zUN (c :: r) = l7 c ++ zUN r := rfl
  rw [e, List.length_append, List.length_cons]
  omega
theorem zOT {c : UInt8} (h : R0 c = true) : ∀ d, d ∈ l7 c → x5 d = true := by
 unfold R0 at h
 rw [Bool.and_eq_true, Bool.and_eq_true, decide_eq_true_eq, decide_eq_true_eq] at h
 obtain ⟨⟨h1, h2⟩, _⟩ := h
 unfold l7
 split
 ·decide
 ·split
  ·decide
  ·split
   ·decide
   ·split
    ·decide
    ·rw [if_pos ⟨h1, h2⟩]
     intro d hd
     rw [List.mem_singleton.1 hd]
     unfold x5
     have : (UInt8.ofNat (c.toNat + 32)).toNat = c.toNat + 32 := UInt8.toNat_ofNat_of_lt' (by show c.toNat + 32 < 256; omega)
     rw [this]
     simp; omega
theorem zMG {s : Str} (h : X3 s = true) : (zUN s).all x5 = true := by
 unfold X3 at h
 rw [Bool.or_eq_true] at h
 rcases h with h | h
 ·rw [zFr h]; exact h
 ·rw [List.all_eq_true] at h ⊢
  intro d hd
  obtain ⟨c, hc, hd⟩ := List.mem_flatMap.1 hd
  exact zOT (h c hc) d hd
def Y2 (s : Str) : Int := t6 (s.getD 0 0)
def l4 (a b : Str) : Int := orI (zUR (zUN a) (zUN b)) (zUU (Y2 a) (Y2 b))
end Go.Abs

namespace Go.Abs
open Go
structure Rule where
 src : Str
 dst : Str
 deriving DecidableEq, Inhabited
@[reducible] def Rule.enc (r : Rule) : AV := .agg [sV r.src, sV r.dst]
def x6 (s : Str) (lo hi : Nat) : Bool := decide (lo ≤ s.length) && (decide (s.length ≤ hi) && s.all x5)
def Rule.ok (r : Rule) : Bool := x6 r.src 1 2 && (x6 r.dst 0 2 && !(decide (r.src = r.dst)))
def p8 (l : List Rule) : Int := if 4 < l.length then 6 else if l.all Rule.ok = true then 0 else 2
def o7 : List Str → Int
 | [] => 0
 | s :: r => if v5 s = 0 then o7 r else v5 s
def a9 (l : List Str) : Int := if 6 < l.length then 6 else o7 l
def L5 (k a b : Str) (i : Nat) : List Str := (List.range' i (k.length + 1 - i)).flatMap fun i => if a.isPrefixOf (k.drop i) = true ∧ x6 (k.take i ++ b ++ k.drop (i + a.length)) 1 12 = true then [k.take i ++ b ++ k.drop (i + a.length)] else []
def V2 (k a b : Str) : List Str := L5 k a b 0
def Y3 (l : List Rule) (k : Str) : List Str := l.flatMap fun r => V2 k r.src r.dst ++ V2 k r.dst r.src
def M7 (met : List Str) : List Str → List Str
 | [] => []
 | x :: r => if x ∈ met then M7 met r else x :: M7 (x :: met) r
theorem zDH : ∀ (l met : List Str) (x : Str), x ∈ M7 met l ↔ x ∈ l ∧ x ∉ met
 | [], met, x => by simp [M7]
 | y :: r, met, x => by
  rw [M7]
  split
  ·rename_i h
   rw [zDH r met x]
   constructor
   ·rintro ⟨h1, h2⟩; exact ⟨by simp [h1], h2⟩
   ·rintro ⟨h1, h2⟩
    refine ⟨?_, h2⟩
    rcases List.mem_cons.1 h1 with rfl | h1
    ·exact absurd h h2
    ·exact h1
  ·rename_i h
   rw [List.mem_cons, zDH r _ x]
   simp only [List.mem_cons, not_or]
   constructor
   ·rintro (rfl | ⟨h1, h2, h3⟩)
    ·exact ⟨.inl rfl, h⟩
    ·exact ⟨.inr h1, h3⟩
   ·rintro ⟨h1, h2⟩
    by_cases e : x = y
    ·exact .inl e
    ·exact .inr ⟨h1.resolve_left e, e, h2⟩
def zBN (l : List Str) : List Str := M7 [] l
theorem mem_dedupN {l : List Str} {x : Str} : x ∈ zBN l ↔ x ∈ l := by unfold zBN; rw [zDH]; simp
def i4 (l : List Rule) (to : Str) : Nat → Str → List Str → List (List Str)
 | 0, now, pre => if now = to then [pre ++ [now]] else []
 | n + 1, now, pre => (zBN (Y3 l now)).flatMap fun s => i4 l to n s (pre ++ [now])
inductive IsChain (l : List Rule) (to : Str) : Nat → Str → List Str → Prop
 | nil : IsChain l to 0 to [to]
 | cons {n : Nat} {s s' : Str} {c : List Str} : s' ∈ Y3 l s → IsChain l to n s' c → IsChain l to (n + 1) s (s :: c)
theorem mem_chainsN {l : List Rule} {to : Str} : ∀ {n : Nat} {s : Str} {pre c : List Str}, c ∈ i4 l to n s pre ↔ ∃ d, c = pre ++ d ∧ IsChain l to n s d
 | 0, s, pre, c => by
  rw [i4]
  constructor
  ·intro h
   split at h
   ·rename_i e
    subst e
    exact ⟨[s], List.mem_singleton.1 h, .nil⟩
   ·cases h
  ·rintro ⟨d, rfl, h⟩
   cases h
   simp
 | n + 1, s, pre, c => by
  rw [i4, List.mem_flatMap]
  constructor
  ·rintro ⟨s', h1, h2⟩
   obtain ⟨d, rfl, h⟩ := mem_chainsN.1 h2
   exact ⟨s :: d, by simp, .cons (mem_dedupN.1 h1) h⟩
  ·rintro ⟨d, rfl, h⟩
   cases h with
   | cons h1 h2 => exact ⟨_, mem_dedupN.2 h1, mem_chainsN.2 ⟨_, by simp, h2⟩⟩
def zUP : List Str → List Str → Int
 | [], [] => 0
 | [], _ :: _ => -1
 | _ :: _, [] => 1
 | a :: x, b :: y => if zUR a b = 0 then zUP x y else zUR a b
theorem M6 (a b : Str) : zUR b a = -zUR a b := by
 unfold zUR
 cases h : v7 a b with
 | true => rw [zDp h]; simp
 | false => cases h2 : v7 b a <;> simp
theorem zCW : ∀ x y : List Str, zUP y x = -zUP x y
 | [], [] => rfl
 | [], _ :: _ => rfl
 | _ :: _, [] => rfl
 | a :: x, b :: y => by
  rw [zUP, zUP, M6 a b]
  by_cases h : zUR a b = 0
  ·rw [if_pos h, if_pos (by omega), zCW x y]
  ·rw [if_neg h, if_neg (by omega)]
theorem zEe : ∀ {x y : List Str}, zUP x y = 0 → x = y
 | [], [], _ => rfl
 | [], _ :: _, h => by cases h
 | _ :: _, [], h => by cases h
 | a :: x, b :: y, h => by
  rw [zUP] at h
  split at h
  ·rename_i e; rw [cmpS_zero.1 e, zEe h]
  ·rename_i e; exact absurd h e
def y7 {α : Type} (cmp : α → α → Int) : Option α → List α → Option α
 | b, [] => b
 | none, x :: r => y7 cmp (some x) r
 | some y, x :: r => if cmp x y < 0 then y7 cmp (some x) r else y7 cmp (some y) r
def X1 {α : Type} (cmp : α → α → Int) (l : List α) : Option α := y7 cmp none l
def W2 {α : Type} (cmp : α → α → Int) (S : α → Prop) (b : α) : Prop := S b ∧ ∀ x, S x → ¬ cmp x b < 0
section
variable {α : Type} {cmp : α → α → Int} (tr : ∀ x y z, ¬ cmp x y < 0 → ¬ cmp y z < 0 → ¬ cmp x z < 0) (asy : ∀ x y, cmp x y < 0 → ¬ cmp y x < 0)
include tr asy
theorem zCh : ∀ (l : List α) (y : α), ∃ b, y7 cmp (some y) l = some b ∧ W2 cmp (fun x => x = y ∨ x ∈ l) b
 | [], y => ⟨y, rfl, .inl rfl, fun x hx => by
  rcases hx with rfl | hx
  ·exact fun h => asy _ _ h h
  ·cases hx⟩
 | x :: r, y => by
  rw [y7]
  split
  ·rename_i h
   obtain ⟨b, h1, h2, h3⟩ := zCh r x
   refine ⟨b, h1, ?_, fun z hz => ?_⟩
   ·rcases h2 with h2 | h2
    ·exact .inr (by simp [h2])
    ·exact .inr (by simp [h2])
   ·rcases hz with rfl | hz
    ·exact tr _ _ _ (asy _ _ h) (h3 x (.inl rfl))
    ·rcases List.mem_cons.1 hz with rfl | hz
     ·exact h3 _ (.inl rfl)
     ·exact h3 _ (.inr hz)
  ·rename_i h
   obtain ⟨b, h1, h2, h3⟩ := zCh r y
   refine ⟨b, h1, ?_, fun z hz => ?_⟩
   ·rcases h2 with h2 | h2
    ·exact .inl h2
    ·exact .inr (by simp [h2])
   ·rcases hz with rfl | hz
    ·exact h3 _ (.inl rfl)
    ·rcases List.mem_cons.1 hz with rfl | hz
     ·exact tr _ _ _ h (h3 y (.inl rfl))
     ·exact h3 _ (.inr hz)
theorem B7 {l : List α} (hl : l ≠ []) : ∃ b, X1 cmp l = some b ∧ W2 cmp (· ∈ l) b := by
 cases l with
 | nil => exact absurd rfl hl
 | cons x r =>
  obtain ⟨b, h1, h2, h3⟩ := zCh tr asy r x
  refine ⟨b, h1, ?_, fun z hz => h3 z ?_⟩
  ·rcases h2 with rfl | h2
   ·simp
   ·simp [h2]
  ·exact List.mem_cons.1 hz
end
theorem zFC {α : Type} {cmp : α → α → Int} : X1 cmp ([] : List α) = none := rfl
theorem zVv {x y z : Str} (h1 : ¬ zUR x y < 0) (h2 : ¬ zUR y z < 0) : ¬ zUR x z < 0 := by
 rw [cmpS_neg] at *
 intro h
 by_cases e : v7 y x = true
 ·exact h2 (zDs e h)
 ·have : x = y := zAO (by simpa using h1) (by simpa using e)
  subst this; exact h2 h
theorem zVu : ∀ {x y z : List Str}, ¬ zUP x y < 0 → ¬ zUP y z < 0 → ¬ zUP x z < 0
 | [], [], _, _, h => h
 | [], _ :: _, _, h, _ => absurd (by rw [zUP]; decide) h
 | _ :: _, [], [], _, _ => by rw [zUP]; decide
 | _ :: _, [], _ :: _, _, h => absurd (by rw [zUP]; decide) h
 | _ :: _, _ :: _, [], _, _ => by rw [zUP]; decide
 | a :: x, b :: y, c :: z, h1, h2 => by
  rw [zUP] at *
  have hab := M6 a b
  have hbc := M6 b c
  have hac := M6 a c
  by_cases e1 : zUR a b = 0
  ·rw [if_pos e1] at h1
   rw [cmpS_zero.1 e1]
   by_cases e2 : zUR b c = 0
   ·rw [if_pos e2] at h2 ⊢
    exact zVu h1 h2
   ·rw [if_neg e2] at h2 ⊢
    exact h2
  ·rw [if_neg e1] at h1
   by_cases e2 : zUR b c = 0
   ·rw [if_pos e2] at h2
    rw [← cmpS_zero.1 e2, if_neg e1]; exact h1
   ·rw [if_neg e2] at h2
    have h3 := zVv h1 h2
    by_cases e3 : zUR a c = 0
    ·have : a = c := cmpS_zero.1 e3
     subst this
     omega
    ·rw [if_neg e3]; exact h3
theorem zI8 (x y : List Str) (h : zUP x y < 0) : ¬ zUP y x < 0 := by have := zCW x y; omega
theorem zMX {S : List Str → Prop} {a b : List Str} (ha : W2 zUP S a) (hb : W2 zUP S b) : a = b := by
 have h1 := ha.2 b hb.1
 have h2 := hb.2 a ha.1
 have := zCW a b
 exact zEe (by omega)
def U8 (l : List Rule) (n : Nat) (k to : Str) : Option (List Str) := X1 zUP (i4 l to n k [])
theorem chainN_some {l : List Rule} {n : Nat} {k to : Str} {c : List Str} : U8 l n k to = some c ↔ W2 zUP (IsChain l to n k) c := by
 have hm : ∀ x, x ∈ i4 l to n k [] ↔ IsChain l to n k x := fun x => by
  rw [mem_chainsN]
  exact ⟨fun ⟨d, e, h⟩ => by rw [e]; exact h, fun h => ⟨x, rfl, h⟩⟩
 unfold U8
 by_cases hl : i4 l to n k [] = []
 ·rw [hl, zFC]
  constructor
  ·intro h; cases h
  ·intro h
   have := (hm c).2 h.1
   rw [hl] at this; cases this
 ·obtain ⟨b, h1, h2, h3⟩ := B7 (cmp := zUP) (fun _ _ _ => zVu) zI8 hl
  have hb : W2 zUP (IsChain l to n k) b := ⟨(hm b).1 h2, fun x hx => h3 x ((hm x).2 hx)⟩
  rw [h1]
  constructor
  ·intro h; cases h; exact hb
  ·intro h; rw [zMX h hb]
def zCK (s : Str) : Option (List Str) → Str → Option (List Str) → Option (List Str)
 | best, _, none => best
 | none, _, some rest => some (s :: rest)
 | some b, x, some rest => if v7 x (b.getD 1 []) = true then some (s :: rest) else some b
def K8 (l : List Rule) (to : Str) : Nat → Str → Option (List Str)
 | 0, s => if s = to then some [s] else none
 | n + 1, s => (Y3 l s).foldl (fun best x => zCK s best x (K8 l to n x)) none
theorem IsChain.head {l : List Rule} {to : Str} {n : Nat} {s : Str} {c : List Str} (h : IsChain l to n s c) : ∃ r, c = s :: r := by
 cases h with
 | nil => exact ⟨_, rfl⟩
 | cons _ _ => exact ⟨_, rfl⟩
def zVN (l : List Rule) (to : Str) (n : Nat) (s : Str) (xs : List Str) (c : List Str) : Prop := ∃ x r, x ∈ xs ∧ c = s :: r ∧ IsChain l to n x r
theorem B0 (a : Str) (x y : List Str) : zUP (a :: x) (a :: y) = zUP x y := by rw [zUP, if_pos (cmpS_zero.2 rfl)]
theorem zCT {l : List Rule} {to : Str} : ∀ {n : Nat} {s : Str} {o : Option (List Str)}, K8 l to n s = o → match o with
    | none => ∀ c, ¬ IsChain l to n s c
    | some c => W2 zUP (IsChain l to n s) c
  | 0, s, o, h => by
    rw [K8] at h
    split at h
    · rename_i e
      subst h e
      refine ⟨.nil, fun x hx => ?_⟩
      cases hx
      rw [zUP, if_pos (cmpS_zero.2 rfl)]; decide
    · rename_i e
      subst h
      intro c hc
      cases hc
      exact e rfl
  | n + 1, s, o, h => by
    rw [K8] at h
    have key : ∀ (xs done : List Str) (b : Option (List Str)), (match b with
        | none => ∀ c, ¬ zVN l to n s done c
        | some c => W2 zUP (zVN l to n s done) c) →
        match xs.foldl (fun best x => zCK s best x (K8 l to n x)) b with
        | none => ∀ c, ¬ zVN l to n s (done ++ xs) c
        | some c => W2 zUP (zVN l to n s (done ++ xs)) c := by
      intro xs
      induction xs with
      | nil => intro done b hb; simpa using hb
      | cons x xs ih =>
        intro done b hb
        rw [List.foldl_cons, show done ++ x :: xs = (done ++ [x]) ++ xs by simp]
        apply ih
        have IH := zCT (l := l) (to := to) (n := n) (s := x) rfl
        cases hr : K8 l to n x with
        | none =>
          rw [hr] at IH
          have hov : ∀ c, zVN l to n s (done ++ [x]) c ↔ zVN l to n s done c := fun c => by
            constructor
            · rintro ⟨y, r, hy, rfl, hc⟩
              rcases List.mem_append.1 hy with hy | hy
              · exact ⟨y, r, hy, rfl, hc⟩
              · rw [List.mem_singleton.1 hy] at hc; exact absurd hc (IH r)
            · rintro ⟨y, r, hy, rfl, hc⟩
              exact ⟨y, r, by simp [hy], rfl, hc⟩
          cases b with
          | none => exact fun c hc => hb c ((hov c).1 hc)
          | some b => exact ⟨(hov b).2 hb.1, fun z hz => hb.2 z ((hov z).1 hz)⟩
        | some rest =>
          rw [hr] at IH
          obtain ⟨r0, rfl⟩ := IH.1.head
          have hnew : zVN l to n s (done ++ [x]) (s :: x :: r0) := ⟨x, x :: r0, by simp, rfl, IH.1⟩
          cases b with
          | none =>
            show W2 zUP _ (s :: x :: r0)
            refine ⟨hnew, ?_⟩
            rintro z ⟨y, r, hy, rfl, hc⟩
            rcases List.mem_append.1 hy with hy | hy
            · exact absurd ⟨y, r, hy, rfl, hc⟩ (hb (s :: r))
            · rw [List.mem_singleton.1 hy] at hc
              rw [B0]; exact IH.2 _ hc
          | some b =>
            obtain ⟨⟨yb, rb, hyb, eb, hcb⟩, hleast⟩ := hb
            obtain ⟨rb0, rfl⟩ := hcb.head
            subst eb
            simp only [zCK, List.getD_cons_succ, List.getD_cons_zero]
            by_cases hlt : v7 x yb = true
            · rw [if_pos hlt]
              refine ⟨hnew, ?_⟩
              rintro z ⟨y, r, hy, rfl, hc⟩
              rcases List.mem_append.1 hy with hy | hy
              · have h1 := hleast (s :: r) ⟨y, r, hy, rfl, hc⟩
                refine zVu h1 ?_
                rw [B0, zUP]
                have h2 := cmpS_neg.2 hlt
                have h3 := M6 x yb
                rw [if_neg (by omega)]; omega
              · rw [List.mem_singleton.1 hy] at hc
                rw [B0]; exact IH.2 _ hc
            · rw [if_neg hlt]
              refine ⟨⟨yb, yb :: rb0, by simp [hyb], rfl, hcb⟩, ?_⟩
              rintro z ⟨y, r, hy, rfl, hc⟩
              rcases List.mem_append.1 hy with hy | hy
              · exact hleast (s :: r) ⟨y, r, hy, rfl, hc⟩
              · rw [List.mem_singleton.1 hy] at hc
                obtain ⟨r', rfl⟩ := hc.head
                rw [B0, zUP]
                have h2 : ¬ zUR x yb < 0 := fun h => hlt (cmpS_neg.1 h)
                split
                · rename_i e
                  have e := cmpS_zero.1 e
                  subst e
                  have := hleast (s :: x :: r') ⟨x, x :: r', hyb, rfl, hc⟩
                  rw [B0, B0] at this
                  exact this
                · exact h2
    have := key (Y3 l s) [] none (by rintro c ⟨y, r, hy, _⟩; cases hy)
    rw [h, List.nil_append] at this
    have hov : ∀ c, zVN l to n s (Y3 l s) c ↔ IsChain l to (n + 1) s c := fun c => by
      constructor
      · rintro ⟨y, r, hy, rfl, hc⟩; exact .cons hy hc
      · intro hc
        cases hc with
        | cons h1 h2 => exact ⟨_, _, h1, rfl, h2⟩
    cases o with
    | none => exact fun c hc => this c ((hov c).2 hc)
    | some c => exact ⟨(hov c).1 this.1, fun z hz => this.2 z ((hov z).2 hz)⟩
theorem zJf (l : List Rule) (to : Str) (n : Nat) (s : Str) : U8 l n s to = K8 l to n s := by
 have h := zCT (l := l) (to := to) (n := n) (s := s) rfl
 cases hr : K8 l to n s with
 | some c => rw [hr] at h; exact chainN_some.2 h
 | none =>
  rw [hr] at h
  cases hc : U8 l n s to with
  | none => rfl
  | some c => exact absurd (chainN_some.1 hc).1 (h c)
end Go.Abs

namespace Go.Abs
open Go
def zUz : Str → Str → Bool
 | [], _ => true
 | _ :: _, [] => false
 | a :: x, b :: y => if a = b then zUz x y else zUz (a :: x) y
def j4 (k whole : Str) : Bool := decide (k.length < whole.length) && (k.getD 0 0 == whole.getD 0 0 && zUz k whole)
def W8 (k : Str) (l : List Str) (own : Str) : Bool := l.any fun s => !(decide (zUN s = own)) && j4 k (zUN s)
def zAP : Str → List Str
 | [] => [[]]
 | a :: r => (zAP r).map (a :: ·) ++ zAP r
theorem mem_subsL : ∀ {k s : Str}, s ∈ zAP k ↔ s.Sublist k
 | [], s => by simp [zAP]
 | a :: r, s => by
  rw [zAP, List.mem_append, List.mem_map]
  constructor
  ·rintro (⟨t, ht, rfl⟩ | h)
   ·exact (mem_subsL.1 ht).cons_cons a
   ·exact (mem_subsL.1 h).cons a
  ·intro h
   cases h with
   | cons _ h => exact .inr (mem_subsL.2 h)
   | cons_cons _ h => exact .inl ⟨_, mem_subsL.2 h, rfl⟩
def T6 (k s : Str) : Prop := ∃ t : Str, t.Sublist (k.drop 1) ∧ s = k.take 1 ++ t ∧ s.length < k.length
def J1 (k : Str) : List Str := ((zAP (k.drop 1)).map (k.take 1 ++ ·)).filter fun s => decide (s.length < k.length)
theorem zMq {k s : Str} : s ∈ J1 k ↔ T6 k s := by
 unfold J1 T6
 rw [List.mem_filter, List.mem_map, decide_eq_true_eq]
 constructor
 ·rintro ⟨⟨t, ht, rfl⟩, h⟩; exact ⟨t, mem_subsL.1 ht, rfl, h⟩
 ·rintro ⟨t, ht, rfl, h⟩; exact ⟨⟨t, mem_subsL.2 ht, rfl⟩, h⟩
def zUT (up : Bool) (a b : Str) : Int := orI (if up = true then (a.length : Int) - b.length else (b.length : Int) - a.length) (zUR a b)
theorem zCV {up : Bool} {a b : Str} : zUT up a b < 0 ↔ (if up = true then a.length < b.length else b.length < a.length) ∨ (a.length = b.length ∧ v7 a b = true) := by
 unfold zUT orI
 cases up
 ·simp only [Bool.false_eq_true, if_false]
  by_cases h : (b.length : Int) - a.length = 0
  ·rw [if_pos h, cmpS_neg]
   constructor
   ·intro k; exact .inr ⟨by omega, k⟩
   ·rintro (k | k)
    ·omega
    ·exact k.2
  ·rw [if_neg h]
   constructor
   ·intro k; exact .inl (by omega)
   ·rintro (k | k)
    ·omega
    ·omega
 ·simp only [if_true]
  by_cases h : (a.length : Int) - b.length = 0
  ·rw [if_pos h, cmpS_neg]
   constructor
   ·intro k; exact .inr ⟨by omega, k⟩
   ·rintro (k | k)
    ·omega
    ·exact k.2
  ·rw [if_neg h]
   constructor
   ·intro k; exact .inl (by omega)
   ·rintro (k | k)
    ·omega
    ·omega
theorem zHi {x y z : Str} (h1 : ¬ v7 x y = true) (h2 : ¬ v7 y z = true) : ¬ v7 x z = true := by
 rw [← cmpS_neg] at *; exact zVv h1 h2
theorem zVt {up : Bool} {x y z : Str} (h1 : ¬ zUT up x y < 0) (h2 : ¬ zUT up y z < 0) : ¬ zUT up x z < 0 := by
 rw [zCV] at *
 cases up
 ·simp only [Bool.false_eq_true, if_false, not_or, not_and] at *
  refine ⟨by omega, fun e => ?_⟩
  exact zHi (h1.2 (by omega)) (h2.2 (by omega))
 ·simp only [if_true, not_or, not_and] at *
  refine ⟨by omega, fun e => ?_⟩
  exact zHi (h1.2 (by omega)) (h2.2 (by omega))
theorem zCJ {up : Bool} (x y : Str) (h : zUT up x y < 0) : ¬ zUT up y x < 0 := by
 rw [zCV] at *
 cases up
 ·simp only [Bool.false_eq_true, if_false, not_or, not_and] at *
  rcases h with h | h
  ·exact ⟨by omega, fun e => by omega⟩
  ·exact ⟨by omega, fun _ => by rw [zDp h.2]; simp⟩
 ·simp only [if_true, not_or, not_and] at *
  rcases h with h | h
  ·exact ⟨by omega, fun e => by omega⟩
  ·exact ⟨by omega, fun _ => by rw [zDp h.2]; simp⟩
theorem zFy {up : Bool} {S : Str → Prop} {a b : Str} (ha : W2 (zUT up) S a) (hb : W2 (zUT up) S b) : a = b := by
 have h1 := ha.2 b hb.1
 have h2 := hb.2 a ha.1
 rw [zCV] at h1 h2
 have hl : a.length = b.length := by
  cases up
  ·simp only [Bool.false_eq_true, if_false, not_or] at h1 h2; omega
  ·simp only [if_true, not_or] at h1 h2; omega
 simp only [not_or, not_and] at h1 h2
 exact zAO (by simpa using h2.2 hl) (by simpa using h1.2 hl.symm)
def C0 (l : List Str) (own : Str) (most : Int) (s : Str) : Prop := T6 own s ∧ (s.length : Int) ≤ most ∧ W8 s l own = false
def zUw (l : List Str) (own : Str) (most : Int) (up : Bool) : Option Str := X1 (zUT up) ((J1 own).filter fun s => decide ((s.length : Int) ≤ most) && !W8 s l own)
theorem mem_ok {l : List Str} {own : Str} {most : Int} {s : Str} : s ∈ (J1 own).filter (fun s => decide ((s.length : Int) ≤ most) && !W8 s l own) ↔ C0 l own most s := by
 unfold C0
 rw [List.mem_filter, zMq, Bool.and_eq_true, decide_eq_true_eq, Bool.not_eq_true']
theorem zJ2 {l : List Str} {own : Str} {most : Int} {up : Bool} {L : List Str} (h : ∀ s, s ∈ L ↔ C0 l own most s) : X1 (zUT up) L = zUw l own most up := by
  have hm : ∀ s, s ∈ L ↔ s ∈ (J1 own).filter (fun s => decide ((s.length : Int) ≤ most) && !W8 s l own) := fun s => (h s).trans mem_ok.symm
  unfold zUw
  by_cases e : L = []
  · have e2 : (J1 own).filter (fun s => decide ((s.length : Int) ≤ most) && !W8 s l own) = [] := by
      rw [List.eq_nil_iff_forall_not_mem]
      intro x hx
      have := (hm x).2 hx
      rw [e] at this; cases this
    rw [e, e2]
  · have e2 : (J1 own).filter (fun s => decide ((s.length : Int) ≤ most) && !W8 s l own) ≠ [] := fun k => e (by
      rw [List.eq_nil_iff_forall_not_mem]
      intro x hx
      have := (hm x).1 hx
      rw [k] at this; cases this)
    obtain ⟨a, a1, a2⟩ := B7 (cmp := zUT up) (fun _ _ _ => zVt) zCJ e
    obtain ⟨b, b1, b2⟩ := B7 (cmp := zUT up) (fun _ _ _ => zVt) zCJ e2
    rw [a1, b1, zFy a2 ⟨(hm b).2 b2.1, fun x hx => b2.2 x ((hm x).1 hx)⟩]
theorem cutN_some {l : List Str} {own : Str} {most : Int} {up : Bool} {s : Str} : zUw l own most up = some s ↔ W2 (zUT up) (C0 l own most) s := by
 unfold zUw
 by_cases e : (J1 own).filter (fun s => decide ((s.length : Int) ≤ most) && !W8 s l own) = []
 ·rw [e, zFC]
  constructor
  ·intro h; cases h
  ·intro h
   have := mem_ok.2 h.1
   rw [e] at this; cases this
 ·obtain ⟨b, b1, b2⟩ := B7 (cmp := zUT up) (fun _ _ _ => zVt) zCJ e
  have hb : W2 (zUT up) (C0 l own most) b := ⟨mem_ok.1 b2.1, fun x hx => b2.2 x (mem_ok.2 hx)⟩
  rw [b1]
  constructor
  ·intro h; cases h; exact hb
  ·intro h; rw [zFy h hb]
end Go.Abs

namespace Go.Abs
open Go
theorem zFp {own s : Str} (h : T6 own s) : 1 ≤ s.length := by
 obtain ⟨t, ht, rfl, hl⟩ := h
 cases own with
 | nil => simp at hl
 | cons a r => simp
theorem zFD {α β : Type} {f : α → Option β} {b : β} : ∀ {L : List α}, O6 f L = some b → ∃ pre x post, L = pre ++ x :: post ∧ f x = some b ∧ ∀ y, y ∈ pre → f y = none
 | [], h => by cases h
 | y :: r, h => by
  rw [O6] at h
  split at h
  ·rename_i e; cases h; exact ⟨[], y, r, rfl, e, fun _ h => by cases h⟩
  ·rename_i e
   obtain ⟨pre, x, post, rfl, h1, h2⟩ := zFD h
   exact ⟨y :: pre, x, post, rfl, h1, fun z hz => by
    rcases List.mem_cons.1 hz with rfl | hz
    ·exact e
    ·exact h2 z hz⟩
def Z9 (l : List Str) (i : Int) : Str := zUN (l.getD i.toNat [])
def S1 (l : List Str) (i : Int) : Int := if a9 l = 0 then if i < 0 ∨ (l.length : Int) ≤ i then 3 else 0 else a9 l
def zV7 (s : Str) : Str := s ++ [46]
def X2 (l : List Str) (i w : Int) : Int := if S1 l i = 0 then if w < 1 then 1 else if ((Z9 l i).length : Int) ≤ w then 0 else if (zUw l (Z9 l i) (w - 1) false).isSome = true then 0 else 11 else S1 l i
def zUk (l : List Str) (i w : Int) : Str := if S1 l i = 0 then if w < 1 then [] else if ((Z9 l i).length : Int) ≤ w then Z9 l i else ((zUw l (Z9 l i) (w - 1) false).map zV7).getD [] else []
end Go.Abs

namespace Go.Abs
open Go
def V1 (r : List Rule) (a b : Str) : Int := if p8 r = 0 then if v5 a = 0 then v5 b else v5 a else p8 r
def F5 (r : List Rule) (a b : Str) : Option (List Str) := O6 (fun n => U8 r n (zUN a) (zUN b)) [0, 1, 2]
def a7 (r : List Rule) (a b : Str) : Int := if V1 r a b = 0 then if (F5 r a b).isSome = true then 0 else 11 else V1 r a b
def zAa (r : List Rule) (a b : Str) : List Str := if V1 r a b = 0 then (F5 r a b).getD [] else []
def M1 (r : List Rule) (a b : Str) : Int := if a7 r a b = 0 then ((zAa r a b).length : Int) - 1 else 0
def zD5 (r : List Rule) (a b : Str) : Int := if a7 r a b = 11 then 2 else if a7 r a b = 0 then (if M1 r a b = 0 then 1 else 3) else 0
def zBA (r : List Rule) (a b : Str) : Int := if a7 r a b = 11 then 0 else a7 r a b
theorem zEc {r : List Rule} {to : Str} {n : Nat} {s : Str} {c : List Str} (h : IsChain r to n s c) : c.length = n + 1 := by
 induction h with
 | nil => rfl
 | cons _ _ ih => rw [List.length_cons, ih]
theorem zEb {r : List Rule} {a b : Str} {c : List Str} (h : F5 r a b = some c) : ∃ n, n ≤ 2 ∧ c.length = n + 1 ∧ IsChain r (zUN b) n (zUN a) c ∧ ∀ m, m < n → ∀ d, ¬ IsChain r (zUN b) m (zUN a) d := by
 obtain ⟨pre, n, post, h1, h2, h3⟩ := zFD h
 have hn := (chainN_some.1 h2).1
 have hm : ∀ m, m ∈ pre → ∀ d, ¬ IsChain r (zUN b) m (zUN a) d := fun m hm d hd => by
  have := h3 m hm
  rw [zJf] at this
  exact (zCT this) d hd
 have hcase : (n = 0 ∧ pre = []) ∨ (n = 1 ∧ pre = [0]) ∨ (n = 2 ∧ pre = [0, 1]) := by
  match pre, h1 with
  | [], h1 => simp at h1; exact .inl ⟨h1.1.symm, rfl⟩
  | [x], h1 => simp at h1; exact .inr (.inl ⟨h1.2.1.symm, by rw [h1.1]⟩)
  | [x, y], h1 => simp at h1; exact .inr (.inr ⟨h1.2.2.1.symm, by rw [h1.1, h1.2.1]⟩)
  | x :: y :: z :: t, h1 =>
   have := congrArg List.length h1
   simp at this
 refine ⟨n, by rcases hcase with h | h | h <;> omega, zEc hn, hn, fun m hlt d => ?_⟩
 rcases hcase with ⟨rfl, _⟩ | ⟨rfl, rfl⟩ | ⟨rfl, rfl⟩
 ·omega
 ·exact hm m (by simp; omega) d
 ·exact hm m (by simp; omega) d
end Go.Abs

namespace Go.Abs
open Go
structure Dice where
 list : List Int
 at_ : Nat
 seed : Int
 deriving Inhabited
abbrev uV (n : Int) : AV := .raw (.int .u64 n)
def y3 (d : Dice) : AObj := .box [.list (d.list.map iV), iV d.at_, uV d.seed]
def O0 (a b : Int) : Int := IntKind.u64.wrap (BitVec.ofInt IntKind.u64.bits a ^^^ BitVec.ofInt IntKind.u64.bits b).toNat
def zA1 (a : Int) (k : Nat) : Int := IntKind.u64.wrap (a * 2 ^ (min k IntKind.u64.bits))
def V4 (a : Int) (k : Nat) : Int := a.fdiv (2 ^ (min k IntKind.u64.bits))
def zVw (s : Int) : Int := O0 s (zA1 s 13)
def zVx (s : Int) : Int := O0 s (V4 s 7)
def zVy (s : Int) : Int := O0 s (zA1 s 17)
def zAo (s : Int) : Int := zVy (zVx (zVw s))
def zVJ (d : Dice) : Int := if d.at_ < d.list.length then IntKind.u64.wrap (zAo d.seed + IntKind.u64.wrap (IntKind.u64.wrap (d.list.getD d.at_ default) * 13787848793156543929)) else zAo d.seed
def zU7 (d : Dice) : Dice := ⟨d.list, if d.at_ < d.list.length then d.at_ + 1 else d.at_, zVJ d⟩
def zVh (n : Int) : Int := IntKind.u64.wrap (O0 n (V4 n 30) * 10723151780598845931)
def zVB (d : Dice) : Int := O0 (zVh (zVJ d)) (V4 (zVh (zVJ d)) 31)
theorem zRg (n : Int) : 0 ≤ IntKind.u64.wrap n ∧ IntKind.u64.wrap n < 18446744073709551616 := by
 rw [IntKind.wrap_u64]; omega
theorem zNX (d : Dice) : 0 ≤ zVB d ∧ zVB d < 18446744073709551616 := zRg _
def toN (n : Int) (d : Dice) : Int := if n < 1 then 0 else (V4 (zVB d) 16).tmod (n + 1)
def toD (n : Int) (d : Dice) : Dice := if n < 1 then d else zU7 d
theorem zOK (n : Int) (h0 : 0 ≤ n) : 0 ≤ V4 n 16 := by
 unfold V4
 rw [Int.fdiv_eq_ediv_of_nonneg _ (by decide)]
 exact Int.ediv_nonneg h0 (by decide)
theorem zD3 (n : Int) (d : Dice) : 0 ≤ toN n d ∧ (toN n d ≤ n ∨ toN n d = 0) := by
 unfold toN
 split
 ·omega
 ·have h := zOK _ (zNX d).1
  rw [Int.tmod_eq_emod_of_nonneg h]
  have h1 := Int.emod_nonneg (V4 (zVB d) 16) (b := n + 1) (by omega)
  have h2 := Int.emod_lt_of_pos (V4 (zVB d) 16) (b := n + 1) (by omega)
  omega
theorem W1 {n : Int} (h : 0 ≤ n) (d : Dice) : 0 ≤ toN n d ∧ toN n d ≤ n := by
 have := zD3 n d; omega
def X4 (lo hi : Int) (d : Dice) : Int := lo + toN (hi - lo) d
def M8 (lo hi : Int) (d : Dice) : Dice := toD (hi - lo) d
theorem zBU {lo hi : Int} (h : lo ≤ hi) (d : Dice) : lo ≤ X4 lo hi d ∧ X4 lo hi d ≤ hi := by
 have := W1 (n := hi - lo) (by omega) d
 unfold X4; omega
def L1 (k : Int) (d : Dice) : Bool := toN (k - 1) d == 0
def r8 (k : Int) (d : Dice) : Dice := toD (k - 1) d
end Go.Abs

namespace Go.Abs
open Go
theorem mem_replacedN {k a b s : Str} : s ∈ V2 k a b ↔ ∃ i, i ≤ k.length ∧ a.isPrefixOf (k.drop i) = true ∧ x6 s 1 12 = true ∧ s = k.take i ++ b ++ k.drop (i + a.length) := by
 unfold V2 L5
 rw [List.mem_flatMap]
 constructor
 ·rintro ⟨i, hi, h⟩
  rw [List.mem_range'_1] at hi
  split at h
  ·rename_i hc
   have := List.mem_singleton.1 h
   subst this
   exact ⟨i, by omega, hc.1, hc.2, rfl⟩
  ·cases h
 ·rintro ⟨i, hi, h1, h2, rfl⟩
  refine ⟨i, by rw [List.mem_range'_1]; omega, ?_⟩
  rw [if_pos ⟨h1, h2⟩]
  simp
def zVg (r : List Rule) (a b : Str) : Int := match F5 r a b with
 | some c => (c.length : Int) - 1
 | none => 9
theorem A4 {s : Str} (v : ValidN s) : x6 (zUN s) 1 12 = true := by
 have h1 := zC1 s
 have h2 := v.ne
 have h3 := v.len
 unfold x6
 rw [Bool.and_eq_true, Bool.and_eq_true, decide_eq_true_eq, decide_eq_true_eq]
 exact ⟨by omega, by omega, zMG v.form⟩
end Go.Abs

namespace Go.Abs
open Go
section
variable {α : Type} (cf : α → α → Int)
def zU5 (x : α) : List α → List α
 | [] => [x]
 | y :: r => if cf x y < 0 then y :: zU5 x r else x :: y :: r
def zUj (pre : List α) (x : α) : List α := (zU5 cf x pre.reverse).reverse
def a8 (xs : List α) : List α := xs.foldl (zUj cf) []
theorem zFm (x : α) : ∀ l : List α, (zU5 cf x l).Perm (x :: l)
 | [] => .refl _
 | y :: r => by
  unfold zU5
  split
  ·exact ((zFm x r).cons y).trans (.swap x y r)
  ·exact .refl _
theorem zFk (pre : List α) (x : α) : (zUj cf pre x).Perm (pre ++ [x]) := by
 unfold zUj
 refine (List.reverse_perm _).trans ((zFm cf x _).trans ?_)
 exact ((List.reverse_perm pre).cons x).trans (List.perm_append_comm (l₁ := [x]) (l₂ := pre))
theorem zFq : ∀ (xs pre : List α), (xs.foldl (zUj cf) pre).Perm (pre ++ xs)
 | [], pre => by simp
 | x :: r, pre => by
  rw [List.foldl_cons]
  refine (zFq r _).trans ?_
  refine ((zFk cf pre x).append_right r).trans ?_
  simp
theorem zC0 (xs : List α) : (a8 cf xs).Perm xs := by have := zFq cf xs []; simpa [a8] using this
theorem zCz (xs : List α) : (a8 cf xs).length = xs.length := (zC0 cf xs).length_eq
theorem zMF (xs : List α) (x : α) : a8 cf (xs ++ [x]) = zUj cf (a8 cf xs) x := by simp [a8, List.foldl_append]
def zU3 (S : List α) (x : α) (R : List α) (d : Nat) : List α := S.take (S.length - d) ++ x :: (S.drop (S.length - d) ++ R)
theorem zJw (S : List α) (x : α) (R : List α) (d : Nat) : (zU3 S x R d).length = S.length + 1 + R.length := by simp [zU3]; omega
variable [Inhabited α]
theorem zJy (S : List α) (x : α) (R : List α) {d : Nat} (h : d ≤ S.length) : (zU3 S x R d).getD (S.length - d) default = x := by
 unfold zU3
 simp only [List.getD_eq_getElem?_getD]
 rw [List.getElem?_append_right (by simp)]
 simp [show min (S.length - d) S.length = S.length - d by omega]
theorem zJz (S : List α) (x : α) (R : List α) {d : Nat} (h : d < S.length) : (zU3 S x R d).getD (S.length - d - 1) default = S.getD (S.length - d - 1) default := by
 unfold zU3
 simp only [List.getD_eq_getElem?_getD]
 rw [List.getElem?_append_left (by simp; omega), List.getElem?_take, if_pos (by omega)]
theorem zJx (S : List α) (x : α) (R : List α) {d : Nat} (h : d < S.length) :
  ((zU3 S x R d).set (S.length - d) (S.getD (S.length - d - 1) default)).set (S.length - d - 1) x = zU3 S x R (d + 1) := by
 obtain ⟨j, hj⟩ : ∃ j, S.length - d = j + 1 := ⟨S.length - d - 1, by omega⟩
 have hj' : S.length - (d + 1) = j := by omega
 have hlt : j < S.length := by omega
 unfold zU3
 rw [hj, hj']
 have e1 : S.take (j + 1) = S.take j ++ [S.getD j default] := by rw [List.take_add_one]; simp [List.getD, hlt]
 have e2 : S.drop j = S.getD j default :: S.drop (j + 1) := o5 hlt
 rw [e1, e2]
 simp only [Nat.add_sub_cancel]
 have hl : (S.take j).length = j := by simp; omega
 rw [List.append_assoc, List.set_append_right _ _ (by omega), hl]
 simp only [Nat.add_sub_cancel_left, List.singleton_append, List.set_cons_succ, List.set_cons_zero]
 rw [List.set_append_right _ _ (by omega), hl]
 simp
theorem zMB (pre : List α) (x y : α) (h : cf x y < 0) : zUj cf (pre ++ [y]) x = zUj cf pre x ++ [y] := by
 have _ := (default : α)
 unfold zUj; simp [zU5, h]
theorem zMA (pre : List α) (x y : α) (h : ¬ cf x y < 0) : zUj cf (pre ++ [y]) x = pre ++ [y] ++ [x] := by
 have _ := (default : α)
 unfold zUj; simp [zU5, h]
theorem zQT {l : List α} {i : Nat} (h : i < l.length) : l.take (i + 1) = l.take i ++ [l.getD i default] := by
 rw [List.take_add_one]; simp [List.getD, h]
def InsP (S : List α) (x : α) (R : List α) (cur : List α) (d : Nat) : Prop := cur = zU3 S x R d ∧ zUj cf S x = zUj cf (S.take (S.length - d)) x ++ S.drop (S.length - d)
theorem InsP.start (S : List α) (x : α) (R : List α) : InsP cf S x R (S ++ x :: R) 0 := by simp [InsP, zU3]
theorem InsP.next {S : List α} {x : α} {R cur : List α} {d : Nat} (h : InsP cf S x R cur d) (hd : d < S.length) (hc : cf x (S.getD (S.length - d - 1) default) < 0) :
  InsP cf S x R ((cur.set (S.length - d) (S.getD (S.length - d - 1) default)).set (S.length - d - 1) x) (d + 1) := by
 obtain ⟨h1, h2⟩ := h
 refine ⟨by rw [h1, zJx S x R hd], ?_⟩
 obtain ⟨j, hj⟩ : ∃ j, S.length - d = j + 1 := ⟨S.length - d - 1, by omega⟩
 have hj' : S.length - (d + 1) = j := by omega
 have hlt : j < S.length := by omega
 have e1 : S.take (j + 1) = S.take j ++ [S.getD j default] := by rw [List.take_add_one]; simp [List.getD, hlt]
 have e2 : S.drop j = S.getD j default :: S.drop (j + 1) := o5 hlt
 rw [hj] at h2 hc
 simp only [Nat.add_sub_cancel] at hc
 rw [h2, hj', e1, zMB cf _ _ _ hc, e2, List.append_assoc]; rfl
theorem InsP.stop {S : List α} {x : α} {R cur : List α} {d : Nat} (h : InsP cf S x R cur d) (hd : d ≤ S.length) (hc : d < S.length → ¬ cf x (S.getD (S.length - d - 1) default) < 0) : cur = zUj cf S x ++ R := by
 obtain ⟨h1, h2⟩ := h
 rw [h1, h2]
 unfold zU3
 by_cases e : d = S.length
 ·subst e; simp [zUj, zU5]
 ·obtain ⟨j, hj⟩ : ∃ j, S.length - d = j + 1 := ⟨S.length - d - 1, by omega⟩
  have hlt : j < S.length := by omega
  have e1 : S.take (j + 1) = S.take j ++ [S.getD j default] := by rw [List.take_add_one]; simp [List.getD, hlt]
  have hc' := hc (by omega)
  rw [hj] at hc' ⊢
  simp only [Nat.add_sub_cancel] at hc'
  rw [e1, zMA cf _ _ _ hc']; simp
end
end Go.Abs

namespace Go.Abs
open Go
theorem zEf (a b : Int) : zUU b a = -zUU a b := by
 unfold zUU
 repeat' split
 all_goals omega
theorem zEh (a b : Str) : l4 b a = -l4 a b := by
 unfold l4 orI
 rw [M6 (zUN a) (zUN b), zEf (Y2 a) (Y2 b)]
 by_cases h : zUR (zUN a) (zUN b) = 0
 ·rw [if_pos h, if_pos (by omega)]
 ·rw [if_neg h, if_neg (by omega)]
theorem zLE {x y z : Str} (h1 : ¬ l4 x y < 0) (h2 : ¬ l4 y z < 0) : ¬ l4 x z < 0 := by
 unfold l4 orI at *
 have a1 := M6 (zUN x) (zUN y)
 have a2 := M6 (zUN y) (zUN z)
 have gS := fun (p : ¬ zUR (zUN x) (zUN y) < 0) (q : ¬ zUR (zUN y) (zUN z) < 0) => zVv p q
 by_cases e1 : zUR (zUN x) (zUN y) = 0
 ·rw [if_pos e1] at h1
  rw [cmpS_zero.1 e1]
  by_cases e2 : zUR (zUN y) (zUN z) = 0
  ·rw [if_pos e2] at h2 ⊢
   unfold zUU at *
   repeat' split at h1
   all_goals repeat' split at h2
   all_goals repeat' split
   all_goals omega
  ·rw [if_neg e2] at h2 ⊢
   exact h2
 ·rw [if_neg e1] at h1
  by_cases e2 : zUR (zUN y) (zUN z) = 0
  ·rw [if_pos e2] at h2
   rw [← cmpS_zero.1 e2, if_neg e1]; exact h1
  ·rw [if_neg e2] at h2
   have h3 := gS h1 h2
   by_cases e3 : zUR (zUN x) (zUN z) = 0
   ·have e := cmpS_zero.1 e3
    rw [e] at a1 h1
    have := M6 (zUN y) (zUN z)
    omega
   ·rw [if_neg e3]; exact h3
def Q0 : List Str → Bool
 | [] => true
 | [_] => true
 | a :: b :: r => !(decide (l4 b a < 0)) && Q0 (b :: r)
def X7 (n set : Nat) : List Nat := (List.range n).filter fun i => set.testBit i
def zAK (l : List Str) (set : Nat) : List Str := ((List.range l.length).filter fun i => !set.testBit i).map fun i => l.getD i []
def t9 : List Nat → List Nat → Int
 | [], [] => 0
 | [], _ :: _ => -1
 | _ :: _, [] => 1
 | a :: x, b :: y => if zUU a b = 0 then t9 x y else zUU a b
def v9 (a b : List Nat) : Int := orI (zUU a.length b.length) (t9 a b)
def Y7 (l : List Str) : List (List Nat) := (List.range (2 ^ l.length)).filterMap fun set => if Q0 (zAK l set) = true then some (X7 l.length set) else none
def P9 (l : List Str) : List Nat := (X1 v9 (Y7 l)).getD []
end Go.Abs

namespace Go.Abs
open Go
def wordsL : List Str := [[97, 101, 115], [115, 104, 101, 116, 97], [115, 109, 105, 116, 121, 104, 97], [99, 104, 106, 97], [97, 110, 110, 101]]
def wordsU : List Str := [[65, 69, 83], [88, 69, 84, 65], [83, 77, 73, 84, 89, 65], [67, 74, 65, 88], [65, 78, 78, 69]]
def wordsF : List Str := [[101], [121], [115, 104], [97], [110, 110], [116, 104], [109]]
def wordsT : List Str := [[], [105], [115], [116], [97, 101], [106], [110]]
def Y0 (ws : List Str) (d : Dice) : Str := ws.getD (toN ((ws.length : Int) - 1) d).toNat []
def v6 (ws : List Str) (d : Dice) : Dice := toD ((ws.length : Int) - 1) d
theorem zAI {ws : List Str} (h : 0 < ws.length) (d : Dice) : Y0 ws d ∈ ws := by
 have := W1 (n := (ws.length : Int) - 1) (by omega) d
 unfold Y0
 have hlt : (toN ((ws.length : Int) - 1) d).toNat < ws.length := by omega
 simp [List.getD, hlt]
def V8 (set : Str) : Nat → Dice → Str → Str × Dice
 | 0, d, s => (s, d)
 | n + 1, d, s => V8 set n (toD ((set.length : Int) - 1) d) (s ++ [set.getD (toN ((set.length : Int) - 1) d).toNat 0])
def zVn (t : Bool) (d d2 : Dice) (a : Str) : Str × Dice := if t = true then (Y0 wordsU d2, v6 wordsU d2) else (a, d2)
def zVC (d : Dice) : Str × Dice := zVn (L1 3 (v6 wordsL d)) d (r8 3 (v6 wordsL d)) (Y0 wordsL d)
def zBg (most : Int) (p : Str × Dice) : Str × Dice := V8 p.1 (X4 1 (min most 6) p.2).toNat (M8 1 (min most 6) p.2) []
def X6 (d : Dice) (most : Int) : Str × Dice := zBg most (zVC d)
theorem zF1 (set : Str) : ∀ (n : Nat) (d : Dice) (s : Str), (V8 set n d s).1.length = s.length + n
 | 0, d, s => rfl
 | n + 1, d, s => by rw [V8, zF1 set n]; simp; omega
theorem zC8 (set : Str) (p : UInt8 → Bool) (h0 : 0 < set.length) (hp : set.all p = true) : ∀ (n : Nat) (d : Dice) (s : Str), s.all p = true → (V8 set n d s).1.all p = true
 | 0, d, s, h => h
 | n + 1, d, s, h => by
  rw [V8]
  refine zC8 set p h0 hp n _ _ ?_
  have := W1 (n := (set.length : Int) - 1) (by omega) d
  have hlt : (toN ((set.length : Int) - 1) d).toNat < set.length := by omega
  rw [List.all_append, h, Bool.true_and, List.all_cons, List.all_nil, Bool.and_true]
  refine List.all_eq_true.1 hp _ ?_
  simp [List.getD, hlt]
theorem o0 (n : Int) (d : Dice) : (toD n d).list = d.list := by unfold toD; split <;> rfl
theorem zF2 (set : Str) : ∀ (n : Nat) (d : Dice) (s : Str), (V8 set n d s).2.list = d.list
 | 0, d, s => rfl
 | n + 1, d, s => by rw [V8, zF2 set n, o0]
theorem zRR {x : Str} (h : x ∈ wordsU) : 0 < x.length ∧ x.all R0 = true := by
 have key : (wordsU.all fun x => decide (0 < x.length) && x.all R0) = true := by decide
 have := List.all_eq_true.1 key x h
 simpa using this
theorem zRQ {x : Str} (h : x ∈ wordsL) : 0 < x.length ∧ x.all x5 = true := by
 have key : (wordsL.all fun x => decide (0 < x.length) && x.all x5) = true := by decide
 have := List.all_eq_true.1 key x h
 simpa using this
theorem zG7 (d : Dice) : 0 < (zVC d).1.length ∧ ((zVC d).1.all x5 = true ∨ (zVC d).1.all R0 = true) ∧ (zVC d).2.list = d.list := by
 unfold zVC zVn
 split
 ·have := zRR (zAI (ws := wordsU) (by decide) (r8 3 (v6 wordsL d)))
  exact ⟨this.1, .inr this.2, by simp only [v6, r8, o0]⟩
 ·have := zRQ (zAI (ws := wordsL) (by decide) d)
  exact ⟨this.1, .inl this.2, by simp only [v6, r8, o0]⟩
theorem zGL {d : Dice} {most : Int} (h : 1 ≤ most) : ValidN (X6 d most).1 ∧ ((X6 d most).1.length : Int) ≤ most ∧ (X6 d most).2.list = d.list := by
 obtain ⟨h1, h2, h3⟩ := zG7 d
 unfold X6 zBg
 generalize zVC d = p at *
 have hr := zBU (lo := 1) (hi := min most 6) (by omega) p.2
 have hl := zF1 p.1 (X4 1 (min most 6) p.2).toNat (M8 1 (min most 6) p.2) []
 simp only [List.length_nil, Nat.zero_add] at hl
 refine ⟨⟨by rw [hl]; omega, by rw [hl]; omega, ?_⟩, by rw [hl]; omega, ?_⟩
 ·unfold X3
  rw [Bool.or_eq_true]
  rcases h2 with h2 | h2
  ·exact .inl (zC8 p.1 x5 h1 h2 _ _ [] rfl)
  ·exact .inr (zC8 p.1 R0 h1 h2 _ _ [] rfl)
 ·rw [zF2]
  unfold M8
  rw [o0, h3]
def O4 (s : Str) (at_ : Nat) : Str := s.take at_ ++ s.drop (at_ + 1)
def zH5 (s : Str) (t : Bool) (d : Dice) : Str × Dice := if t = true then (O4 s (toN ((s.length : Int) - 1) d).toNat, toD ((s.length : Int) - 1) d) else (s, d)
def G1 (s : Str) (d : Dice) : Str × Dice := if 97 ≤ (s.getD 0 0).toNat ∧ 1 < s.length then zH5 s (L1 2 d) (r8 2 d) else (s, d)
def zAH (out : List Str) (d : Dice) : Str := out.getD (toN ((out.length : Int) - 1) d).toNat []
def zCE (out : List Str) (p : Str × Dice) (t : Bool) (d : Dice) : Str × Dice := if t = true then G1 (zAH out d) (toD ((out.length : Int) - 1) d) else (p.1, d)
def T7 (out : List Str) (p : Str × Dice) : Str × Dice := if 0 < out.length then zCE out p (L1 3 p.2) (r8 3 p.2) else p
def S7 (most : Int) : Nat → Dice → List Str → List Str × Dice
 | 0, d, out => (out, d)
 | n + 1, d, out => S7 most n (T7 out (X6 d most)).2 (out ++ [(T7 out (X6 d most)).1])
def H0 (d : Dice) (many most : Int) : List Str × Dice := S7 most (toN many d).toNat (toD many d) []
theorem zJ1 {s : Str} (v : ValidN s) (hl : 1 < s.length) {i : Nat} (hi : i < s.length) : ValidN (O4 s i) ∧ (O4 s i).length = s.length - 1 := by
 have h1 : (O4 s i).length = s.length - 1 := by unfold O4; simp; omega
 refine ⟨⟨by omega, by have := v.len; omega, ?_⟩, h1⟩
 have hf := v.form
 unfold X3 at hf ⊢
 rw [Bool.or_eq_true, List.all_eq_true, List.all_eq_true] at hf ⊢
 have hm : ∀ c, c ∈ O4 s i → c ∈ s := fun c hc => by
  rcases List.mem_append.1 hc with hc | hc
  ·exact List.mem_of_mem_take hc
  ·exact List.mem_of_mem_drop hc
 rcases hf with hf | hf
 ·exact .inl (fun c hc => hf c (hm c hc))
 ·exact .inr (fun c hc => hf c (hm c hc))
theorem zRO {s : Str} (v : ValidN s) (d : Dice) : ValidN (G1 s d).1 ∧ (G1 s d).1.length ≤ s.length ∧ (G1 s d).2.list = d.list := by
 unfold G1
 split
 ·rename_i h
  unfold zH5
  split
  ·have := W1 (n := (s.length : Int) - 1) (by omega) (r8 2 d)
   obtain ⟨h1, h2⟩ := zJ1 v h.2 (i := (toN ((s.length : Int) - 1) (r8 2 d)).toNat) (by omega)
   exact ⟨h1, by show (O4 _ _).length ≤ _; omega, by simp only [o0, r8]⟩
  ·exact ⟨v, Nat.le_refl _, by simp only [o0, r8]⟩
 ·exact ⟨v, Nat.le_refl _, rfl⟩
def K6 (most : Int) (s : Str) : Prop := ValidN s ∧ (s.length : Int) ≤ most
theorem zEI {out : List Str} {most : Int} (ho : ∀ s, s ∈ out → K6 most s) {p : Str × Dice} (hp : K6 most p.1) : K6 most (T7 out p).1 ∧ (T7 out p).2.list = p.2.list := by
 unfold T7
 split
 ·rename_i h
  unfold zCE
  split
  ·have := W1 (n := (out.length : Int) - 1) (by omega) (r8 3 p.2)
   have hm : zAH out (r8 3 p.2) ∈ out := by
    unfold zAH
    have hlt : (toN ((out.length : Int) - 1) (r8 3 p.2)).toNat < out.length := by omega
    simp [List.getD, hlt]
   obtain ⟨h1, h2⟩ := ho _ hm
   obtain ⟨g1, g2, g3⟩ := zRO h1 (toD ((out.length : Int) - 1) (r8 3 p.2))
   exact ⟨⟨g1, by omega⟩, by rw [g3]; simp only [o0, r8]⟩
  ·exact ⟨hp, by simp only [o0, r8]⟩
 ·exact ⟨hp, rfl⟩
theorem zGN {most : Int} (h : 1 ≤ most) : ∀ (n : Nat) (d : Dice) (out : List Str), (∀ s, s ∈ out → K6 most s) → (∀ s, s ∈ (S7 most n d out).1 → K6 most s) ∧ (S7 most n d out).1.length = out.length + n ∧ (S7 most n d out).2.list = d.list
 | 0, d, out, ho => ⟨ho, rfl, rfl⟩
 | n + 1, d, out, ho => by
  obtain ⟨v, hl, hd⟩ := zGL (d := d) h
  obtain ⟨g1, g2⟩ := zEI ho (p := X6 d most) ⟨v, hl⟩
  rw [S7]
  obtain ⟨k1, k2, k3⟩ := zGN h n (T7 out (X6 d most)).2 (out ++ [(T7 out (X6 d most)).1]) (fun s hs => by
   rcases List.mem_append.1 hs with hs | hs
   ·exact ho s hs
   ·rw [List.mem_singleton.1 hs]; exact g1)
  exact ⟨k1, by rw [k2]; simp; omega, by rw [k3, g2, hd]⟩
theorem zMx {d : Dice} {many most : Int} (hm : 0 ≤ many) (h : 1 ≤ most) : (∀ s, s ∈ (H0 d many most).1 → K6 most s) ∧ ((H0 d many most).1.length : Int) ≤ many ∧ (H0 d many most).2.list = d.list := by
 have hr := W1 hm d
 obtain ⟨h1, h2, h3⟩ := zGN h (toN many d).toNat (toD many d) [] (fun s hs => by cases hs)
 unfold H0
 refine ⟨h1, ?_, by rw [h3, o0]⟩
 rw [h2]; simp; omega
def T3 : Nat → Dice → List Rule → List Rule × Dice
 | 0, d, out => (out, d)
 | n + 1, d, out => T3 n (v6 wordsT (v6 wordsF d)) (out ++ [⟨Y0 wordsF d, Y0 wordsT (v6 wordsF d)⟩])
def H5 (d : Dice) (many : Int) : List Rule × Dice := T3 (toN many d).toNat (toD many d) []
theorem zGo : ∀ (n : Nat) (d : Dice) (out : List Rule), out.all Rule.ok = true → (T3 n d out).1.all Rule.ok = true ∧ (T3 n d out).1.length = out.length + n ∧ (T3 n d out).2.list = d.list
 | 0, d, out, h => ⟨h, rfl, rfl⟩
 | n + 1, d, out, h => by
  rw [T3]
  have h1 := zAI (ws := wordsF) (by decide) d
  have h2 := zAI (ws := wordsT) (by decide) (v6 wordsF d)
  obtain ⟨k1, k2, k3⟩ := zGo n (v6 wordsT (v6 wordsF d)) (out ++ [⟨Y0 wordsF d, Y0 wordsT (v6 wordsF d)⟩]) (by
   rw [List.all_append, h, Bool.true_and, List.all_cons, List.all_nil, Bool.and_true]
   generalize Y0 wordsF d = x at *
   generalize Y0 wordsT (v6 wordsF d) = y at *
   have key : (wordsF.all fun x => wordsT.all fun y => Rule.ok ⟨x, y⟩) = true := by decide
   exact List.all_eq_true.1 (List.all_eq_true.1 key x h1) y h2)
  exact ⟨k1, by rw [k2]; simp; omega, by rw [k3]; simp only [v6, o0]⟩
theorem zNp {d : Dice} {many : Int} (hm : 0 ≤ many ∧ many ≤ 4) : p8 (H5 d many).1 = 0 ∧ ((H5 d many).1.length : Int) ≤ many ∧ (H5 d many).2.list = d.list := by
 have hr := W1 hm.1 d
 obtain ⟨h1, h2, h3⟩ := zGo (toN many d).toNat (toD many d) [] rfl
 unfold H5
 have hl : (T3 (toN many d).toNat (toD many d) []).1.length = (toN many d).toNat := by rw [h2]; simp
 refine ⟨?_, by omega, by rw [h3, o0]⟩
 unfold p8
 rw [if_neg (by omega), if_pos h1]
end Go.Abs

namespace Go.Abs
open Go
end Go.Abs

namespace Go.Abs
open Go
section
variable (l : List Str)
def cfI (a b : Nat) : Int := l4 (l.getD a []) (l.getD b [])
def Prec (a b : Nat) : Prop := cfI l a b < 0 ∨ (¬ cfI l b a < 0 ∧ a < b)
theorem zCR (a b : Nat) : cfI l b a = -cfI l a b := zEh _ _
theorem zCS {a b c : Nat} (h1 : ¬ cfI l a b < 0) (h2 : ¬ cfI l b c < 0) : ¬ cfI l a c < 0 := zLE h1 h2
theorem Prec.trans {a b c : Nat} (h1 : Prec l a b) (h2 : Prec l b c) : Prec l a c := by
 have ab := zCR l a b
 have bc := zCR l b c
 have ac := zCR l a c
 unfold Prec at *
 have g1 : ¬ cfI l b a < 0 := by rcases h1 with h1 | h1 <;> omega
 have g2 : ¬ cfI l c b < 0 := by rcases h2 with h2 | h2 <;> omega
 have g3 : ¬ cfI l c a < 0 := zCS l g2 g1
 by_cases e : cfI l a c < 0
 ·exact .inl e
 ·refine .inr ⟨g3, ?_⟩
  -- all three are alike
  have e1 : ¬ cfI l a b < 0 := fun h => by
   have : ¬ cfI l a b < 0 := zCS l (b := c) e g2
   exact this h
  have e2 : ¬ cfI l b c < 0 := fun h => by
   have : ¬ cfI l b c < 0 := zCS l (b := a) g1 e
   exact this h
  rcases h1 with h1 | h1
  ·exact absurd h1 e1
  ·rcases h2 with h2 | h2
   ·exact absurd h2 e2
   ·omega
end
end Go.Abs

namespace Go.Abs
open Go
variable [Cur]
def Cust (P : Program) (o : Oper) (σ : AS) (Z : AS → Prop) : Prop := ∀ {E : Env} {a : Act} {w : World} {γ : Gh} {ρ : Option Nat} {next : Nx3} {Q : w6}, St E σ a w γ →
 (∀ σ' a' w' γ', Z σ' → St E σ' a' w' γ' → next a' w' γ') → Z0 (Cur.way P) ρ o next Q a w γ
def zUc (P : Program) (K : AS → Prop) : List Oper → AS → Prop
 | [], σ => K σ
 | o :: r, σ => o.guard = none ∧ Cust P o σ (zUc P K r)
section
variable {P : Program} {E : Env} {σ : AS}
theorem Cust.mono {o : Oper} {Z Z' : AS → Prop} (h : Cust P o σ Z) (hz : ∀ σ', Z σ' → Z' σ') : Cust P o σ Z' := fun hst hn => h hst fun σ' a' w' γ' hZ => hn σ' a' w' γ' (hz σ' hZ)
theorem O1 {K : AS → Prop} (h : K σ) : zUc P K [] σ := h
theorem zU0 {K : AS → Prop} {o : Oper} {r : List Oper} (hg : o.guard = none) (h : (match o.dst with | some d => ltN d σ.n | none => True) ∧ zUV P o σ.ev σ.obj σ.nx (fun v _ wr => zUc P K r ((σ.writes wr).putD o.dst v))) : zUc P K (o :: r) σ :=
 ⟨hg, fun hst hn => zAd hst h.2 (fun d e => by have := h.1; rw [e] at this; exact this) fun v rd wr a' w' γ' hK hs => hn _ a' w' γ' hK hs⟩
theorem B1 {o : Oper} {Z : AS → Prop} (v : AV) (nd : ∀ c, o.op ≠ .defer c) (hd : ∀ d, o.dst = some d → d < σ.n)
  (h : ∀ (E : Env) (I : Nat → Prop) (loc : Nat → Loc) (a : Act) (w : World), SR E I loc σ a w → ∃ x, (execOp a.eval o).run P w = .ok (.value x) w ∧ (∀ es, (execOp a.eval o).events P w es = es) ∧ VR w I loc v x)
  (hz : Z (σ.putD o.dst v)) : Cust P o σ Z := fun hst hn => by
 refine T1 (.inr nd) fun w₁ hr => ?_
 obtain ⟨I, loc, hs⟩ := hst.rely hr
 obtain ⟨x, hrun, hev, hv⟩ := h _ _ _ _ _ hs.sr
 have hg0 := Guar.refl hs.og.wf
 exact ⟨_, w₁, _, hrun, ⟨hg0.wf, hg0.tape, hg0.os, hg0.output, hg0.size, hg0.block, hg0.own, hg0.fro, hg0.tok, by rw [hev]; exact .nil⟩, fun w₂ hr2 => hn _ _ _ _ hz (St.rely ⟨I, loc, hs.putD hv hd⟩ hr2)⟩
variable {Q : Exit → AS → Prop} {p : List Nat} {b : Code}
theorem zGp {ρ : Option Nat} {all : List Oper} {K : AS → Prop} {Q : w6} (hK : ∀ σ a w γ, K σ → St E σ a w γ → Bx (Q .normal a · γ) γ w) :
  ∀ (l : List Oper) (k : Nat) (σ : AS) (a : Act) (w : World) (γ : Gh), all.drop k = l → zUc P K l σ → St E σ a w γ → zUZ (Cur.way P) ρ all.toArray Q (List.range' k (all.length - k)) a w γ
 | [], k, σ, a, w, γ, e, h, hs => by
  have : all.length - k = 0 := by have := congrArg List.length e; simpa using this
  rw [this]
  exact H2 (hK σ a w γ h hs)
 | o :: rest, k, σ, a, w, γ, e, h, hst => by
  have hlen : all.length - k = rest.length + 1 := by have := congrArg List.length e; simpa using this
  have hk : all[k]? = some o := by
   have := congrArg (·[0]?) e
   simpa using this
  have hdr : all.drop (k + 1) = rest := by
   have := congrArg List.tail e
   simpa using this
  have hl2 : all.length - (k + 1) = rest.length := by omega
  rw [hlen, List.range'_succ, ← hl2]
  exact N2 (o := o) (by simpa using hk) (by unfold Region.wanted; rw [h.1]) (h.2 hst fun σ' a' w' γ' h' hs' => zGp hK rest (k + 1) σ' a' w' γ' hdr h' hs')
theorem P5 {id : Nat} {ops : List Oper} (h : sub p b = .region id ops.toArray false) (hx : zUc P (fun σ' => Q .normal σ') ops σ) : Hold P E (sub p b) Q σ := by
 rw [h]
 intro a w γ hst
 refine D7 ?_
 have := zGp (P := P) (E := E) (ρ := none) (Q := zUr E Q) (all := ops) (K := fun σ' => Q .normal σ') (fun σ' a' w' γ' h1 h2 => S4 h1 h2) ops 0 σ a w γ rfl hx hst
 simpa [List.range_eq_range'] using this
theorem SG.say {I : Nat → Prop} {loc : Nat → Loc} {γ : Gh} {a : Act} {w : World} {k : Nat} {A : AObj} (hs : SG E I γ loc σ a w) (hl : (σ.obj k).live = true) (hl' : A.live = true) (hb : ∃ b c, loc k = .blk b c) (hA : OR w I loc k A) : SG E I γ loc (σ.setO k A) a w := by
 obtain ⟨b, c, hb⟩ := hb
 have hsr := hs.sr.writeG (w' := w) hl hb rfl rfl rfl rfl (fun _ _ => rfl) hA (by rintro rfl; cases hl')
 refine ⟨hsr, ⟨hs.og.wf, hs.og.rd, fun o b' c' h1 h2 => ?_, hs.og.mark, hs.og.own, hs.og.fro⟩⟩
 rw [AS.obj_setO] at h1
 by_cases e : k = o
 ·subst e; exact hs.og.live k b' c' hl h2
 ·rw [if_neg e] at h1; exact hs.og.live o b' c' h1 h2
theorem zG3 (k : Nat) {e : TypeId} {y : AV} {c : Code} (ho : σ.obj k = .tbox e [.any, y]) (h0 : Hold P E c Q (σ.setO k (.tbox e [.raw (.pointer none), y]))) (h1 : Hold P E c Q (σ.setO k (.tbox e [.ptr k 0, y]))) : Hold P E c Q σ := by
 intro a w γ hst
 obtain ⟨I, loc, hs⟩ := hst
 have hor := hs.sr.objs k
 rw [ho] at hor
 have hlv : (σ.obj k).live = true := by rw [ho]; rfl
 obtain ⟨b, C, q1, q2, q3, q4, q5⟩ := hor
 have hz : C.size = 2 := q4.symm
 rcases q3 with q3 | q3
 ·refine h0 a w γ ⟨I, loc, hs.say hlv rfl ⟨_, _, q1⟩ ⟨b, C, q1, q2, .inl q3, q4, fun i hi hi' => ?_⟩⟩
  have hi2 : i < 2 := hi
  rcases (show i = 0 ∨ i = 1 by omega) with rfl | rfl
  ·have : C[0] = .pointer none := by simpa [hi'] using q3
   rw [this]; exact .pure (.raw _ rfl)
  ·exact q5 1 hi hi'
 ·refine h1 a w γ ⟨I, loc, hs.say hlv rfl ⟨_, _, q1⟩ ⟨b, C, q1, q2, .inr q3, q4, fun i hi hi' => ?_⟩⟩
  have hi2 : i < 2 := hi
  rcases (show i = 0 ∨ i = 1 by omega) with rfl | rfl
  ·have : C[0] = .pointer (some ⟨b, 0, none⟩) := by simpa [hi'] using q3
   rw [this]; exact .ptr _ _ _ _ q1
  ·exact q5 1 hi hi'
theorem zG1 (k : Nat) {e : TypeId} {x y : AV} {c : Code} (ho : σ.obj k = .tbox e [x, y]) (h0 : Hold P E c Q (σ.setO k (.tbox e [.any, y]))) : Hold P E c Q σ := by
 intro a w γ hst
 obtain ⟨I, loc, hs⟩ := hst
 have hor := hs.sr.objs k
 rw [ho] at hor
 have hlv : (σ.obj k).live = true := by rw [ho]; rfl
 obtain ⟨b, C, q1, q2, q3, q4, q5⟩ := hor
 refine h0 a w γ ⟨I, loc, hs.say hlv rfl ⟨_, _, q1⟩ ⟨b, C, q1, q2, q3, q4, fun i hi hi' => ?_⟩⟩
 have hi2 : i < 2 := hi
 rcases (show i = 0 ∨ i = 1 by omega) with rfl | rfl
 ·exact .pure (.any _)
 ·exact q5 1 hi hi'
variable {o : Oper} {Z : AS → Prop}
theorem zAM {tp te : TypeId} {j : TypeInfo} {w : World} (hp : P.underlying tp = some (.pointer te)) (hte : P.info? te = some j) (x : Option Addr) :
  (binOp .eql tp (.pointer x) (.pointer none)).run P w = .ok (.bool x.isNone) w ∧ ∀ es, (binOp .eql tp (.pointer x) (.pointer none)).events P w es = es := by
 have h : ∀ d : Nat, (Op.equalIn (d + 1) tp (.pointer x) (.pointer none)).run P w = .ok x.isNone w := fun d => by
  cases x <;> simp [Op.equalIn, run_underlying hp]
 have h' : ∀ (d : Nat) es, (Op.equalIn (d + 1) tp (.pointer x) (.pointer none)).events P w es = es := fun d es => by
  cases x <;> simp [Op.equalIn, run_underlying hp]
 constructor
 ·simp only [binOp]
  simp [Op.equal, Op.maxDepth, h 9999]
 ·intro es
  simp only [binOp]
  simp [Op.equal, Op.maxDepth, h 9999, h' 9999]
theorem J4 {σ : AS} {a : Act} {E : Env} {I : Nat → Prop} {loc : Nat → Loc} {w : World} (hs : SR E I loc σ a w) {x : Operand} {v : Value} (h : σ.ev x = .raw v) : a.eval x = v := by
 have := hs.ev x
 rw [h] at this
 exact this.raw_eq
theorem zAr {E : Env} {I : Nat → Prop} {loc : Nat → Loc} {w : World} {k off : Nat} {v : Value} (h : VR w I loc (.ptr k off) v) : ∃ b c, loc k = .blk b c ∧ v = .pointer (some ⟨b, off, none⟩) := by
 cases h with
 | pure hp => cases hp
 | ptr _ _ b c h => exact ⟨b, c, h, rfl⟩
variable {r : List Oper} {K : AS → Prop} {t : TypeId} {x y : Operand} {u : TypeId}
def zVm (P : Program) (t : TypeId) : Prop := ∃ te j, P.underlying t = some (.pointer te) ∧ P.info? te = some j
theorem zIE (hop : o.op = .binOp .eql t x y u) (hg : o.guard = none) (hu : zVm P t) (hx : σ.ev x = .raw (.pointer none)) (hy : σ.ev y = .raw (.pointer none)) (hd : ∀ d, o.dst = some d → d < σ.n) (hz : zUc P K r (σ.putD o.dst (.raw (.bool true)))) : zUc P K (o :: r) σ := by
 obtain ⟨te, j, h1, h2⟩ := hu
 refine ⟨hg, B1 _ (fun c e => by rw [hop] at e; cases e) hd (fun E I loc a w hs => ⟨.bool true, ?_, fun es => ?_, .pure (.raw _ rfl)⟩) hz⟩
 ·simp only [execOp, hop, J4 hs hx, J4 hs hy]
  simp [eqGuard, (zAM (w := w) h1 h2 none).1]
 ·simp only [execOp, hop, J4 hs hx, J4 hs hy]
  simp [eqGuard, (zAM (w := w) h1 h2 none).1, (zAM (w := w) h1 h2 none).2]
theorem zIF {k off : Nat} (hop : o.op = .binOp .eql t x y u) (hg : o.guard = none) (hu : zVm P t) (hx : σ.ev x = .ptr k off) (hy : σ.ev y = .raw (.pointer none)) (hd : ∀ d, o.dst = some d → d < σ.n) (hz : zUc P K r (σ.putD o.dst (.raw (.bool false)))) : zUc P K (o :: r) σ := by
 obtain ⟨te, j, h1, h2⟩ := hu
 refine ⟨hg, B1 _ (fun c e => by rw [hop] at e; cases e) hd (fun E I loc a w hs => ?_) hz⟩
 have hv := hs.ev x
 rw [hx] at hv
 obtain ⟨b, c, _, hv⟩ := zAr (E := E) hv
 refine ⟨.bool false, ?_, fun es => ?_, .pure (.raw _ rfl)⟩
 ·simp only [execOp, hop, hv, J4 hs hy]
  simp [eqGuard, (zAM (w := w) h1 h2 (some ⟨b, off, none⟩)).1]
 ·simp only [execOp, hop, hv, J4 hs hy]
  simp [eqGuard, (zAM (w := w) h1 h2 (some ⟨b, off, none⟩)).1, (zAM (w := w) h1 h2 (some ⟨b, off, none⟩)).2]
theorem zKP {tp te : TypeId} {j : TypeInfo} {w : World} (a : Addr) (hp : P.underlying tp = some (.pointer te)) (hte : P.info? te = some j) (es : Array Event) :
  (binOp .neq tp (.pointer (some a)) (.pointer (some a))).events P w es = es := by
 have h : ∀ d : Nat, (Op.equalIn (d + 1) tp (.pointer (some a)) (.pointer (some a))).run P w = .ok true w := fun d => by
  simp [Op.equalIn, run_underlying hp, sizeOf, typeInfo, hte, run_sameAddr_same]
 have h' : ∀ (d : Nat) es, (Op.equalIn (d + 1) tp (.pointer (some a)) (.pointer (some a))).events P w es = es := fun d es => by
  simp [Op.equalIn, run_underlying hp, sizeOf, typeInfo, hte, run_sameAddr_same, sameAddr]
 simp only [binOp]
 simp [Op.equal, Op.maxDepth, h 9999, h' 9999]
theorem zIG {k off : Nat} (hop : o.op = .binOp .neq t x y u) (hg : o.guard = none) (hu : zVm P t) (hx : σ.ev x = .ptr k off) (hy : σ.ev y = .ptr k off) (hd : ∀ d, o.dst = some d → d < σ.n) (hz : zUc P K r (σ.putD o.dst (.raw (.bool false)))) : zUc P K (o :: r) σ := by
 obtain ⟨te, j, h1, h2⟩ := hu
 refine ⟨hg, B1 _ (fun c e => by rw [hop] at e; cases e) hd (fun E I loc a w hs => ?_) hz⟩
 have hv := hs.ev x
 rw [hx] at hv
 obtain ⟨b, c, e1, hv⟩ := zAr (E := E) hv
 have hw := hs.ev y
 rw [hy] at hw
 obtain ⟨b', c', e2, hw⟩ := zAr (E := E) hw
 rw [e1] at e2; cases e2
 refine ⟨.bool false, ?_, fun es => ?_, .pure (.raw _ rfl)⟩
 ·simp only [execOp, hop, hv, hw]
  simp [eqGuard, Lib.run_neq_ptr_same w _ h1 h2]
 ·simp only [execOp, hop, hv, hw]
  simp [eqGuard, Lib.run_neq_ptr_same w _ h1 h2, zKP _ h1 h2]
theorem zIJ {k : Nat} {s d : TypeId} {e : TypeId} {A B : AV} (hop : o.op = .convert s d x) (hg : o.guard = none) (hx : σ.ev x = .ptr k 0) (hk : σ.obj k = .tbox e [A, B])
  (hs : P.underlying s = some (.pointer e)) (hu : P.underlying d = some .unsafePointer) (hi : ∃ j, P.info? e = some j ∧ j.size = 2) (hd : ∀ d, o.dst = some d → d < σ.n) (hz : zUc P K r (σ.putD o.dst (.ptr k 0))) : zUc P K (o :: r) σ := by
 obtain ⟨j, h2, h3⟩ := hi
 refine ⟨hg, B1 _ (fun c e => by rw [hop] at e; cases e) hd (fun E I loc a w hsr => ?_) hz⟩
 have hv := hsr.ev x
 rw [hx] at hv
 obtain ⟨b, c, e1, hv⟩ := zAr (E := E) hv
 have ho := hsr.objs k
 rw [hk] at ho
 obtain ⟨b', C, q1, q2, _, q3, _⟩ := ho
 rw [e1] at q1; cases q1
 have hsh : w.shape? b = some (e, 2) := by simp [World.shape?, q2, ← q3]
 refine ⟨_, ?_, fun es => ?_, .ptr _ _ _ _ e1⟩
 ·simp only [execOp, hop, hv]
  simp [Lib.run_to_unsafe w ⟨b, 0, none⟩ hs hu h2 (by rw [h3]; decide) hsh (Nat.zero_lt_succ 1)]
 ·simp only [execOp, hop, hv]
  simp [Lib.run_to_unsafe w ⟨b, 0, none⟩ hs hu h2 (by rw [h3]; decide) hsh (Nat.zero_lt_succ 1)]
  simp [convert, run_underlying hs, run_underlying hu, Conv.unsafePointer, Conv.seenAt, viewAt, cellsIn, hsh, sizeOf, typeInfo, h2, h3]
theorem zIH {k : Nat} {s d : TypeId} {e : TypeId} {A B : AV} (hop : o.op = .convert s d x) (hg : o.guard = none) (hx : σ.ev x = .ptr k 0) (hk : σ.obj k = .tbox e [A, B])
  (hs : P.underlying s = some .unsafePointer) (hu : P.underlying d = some (.pointer e)) (hi : ∃ j, P.info? e = some j ∧ j.size = 2) (hlies : liesAt P P.depth e (2 / P.cellsOf e) 0 e 1 = true) (hd : ∀ d, o.dst = some d → d < σ.n) (hz : zUc P K r (σ.putD o.dst (.ptr k 0))) : zUc P K (o :: r) σ := by
 obtain ⟨j, h2, h3⟩ := hi
 refine ⟨hg, B1 _ (fun c e => by rw [hop] at e; cases e) hd (fun E I loc a w hsr => ?_) hz⟩
 have hv := hsr.ev x
 rw [hx] at hv
 obtain ⟨b, c, e1, hv⟩ := zAr (E := E) hv
 have ho := hsr.objs k
 rw [hk] at ho
 obtain ⟨b', C, q1, q2, _, q3, _⟩ := ho
 rw [e1] at q1; cases q1
 have hsh : w.shape? b = some (e, 2) := by simp [World.shape?, q2, ← q3]
 refine ⟨_, ?_, fun es => ?_, .ptr _ _ _ _ e1⟩
 ·simp only [execOp, hop, hv]
  simp [Lib.run_from_unsafe w ⟨b, 0, none⟩ hs hu h2 hsh hlies]
 ·simp only [execOp, hop, hv]
  simp [Lib.run_from_unsafe w ⟨b, 0, none⟩ hs hu h2 hsh hlies]
  simp [convert, run_underlying hs, run_underlying hu, Conv.unsafePointer, Conv.seenAt, viewAt, hsh, variablesAt, hlies, sizeOf, typeInfo, h2, h3]
def zG4 (P : Program) (f : FuncId) : Prop := ∃ fn, P.funcs[f]? = some fn ∧ (fn.name == "runtime.NumGoroutine") = false ∧ fn.body.isNone = true ∧ Extern.findNext fn = none ∧ Extern.find fn = some Extern.AbiNoEscape.same
theorem zII {k off : Nat} {fo : Operand} {ts : Array TypeId} {f : FuncId} (hop : o.op = .call ⟨.value fo, #[x], ts⟩) (hg : o.guard = none) (hf : σ.ev fo = .raw (.func (.func f) #[] #[])) (hx : σ.ev x = .ptr k off) (hp : zG4 P f)
  (hd : ∀ d, o.dst = some d → d < σ.n) (hz : zUc P K r (σ.putD o.dst (.ptr k off))) : zUc P K (o :: r) σ := by
 obtain ⟨fn, m1, m2, m3, m4, m5⟩ := hp
 refine ⟨hg, fun {_ a _ _ _ _ _} hst hn => ?_⟩
 refine T1 (.inr fun c e => by rw [hop] at e; cases e) fun w₁ hr => ?_
 obtain ⟨I, loc, hs⟩ := hst.rely hr
 have hv := hs.sr.ev x
 rw [hx] at hv
 have hfv := J4 hs.sr hf
 generalize hxv : a.eval x = v at hv
 have hrun : (execOp a.eval o).run P w₁ = .ok (.value v) w₁ := by
  simp only [execOp, hop, resolve, hfv, Deferred.ofValue, Sem.run_bind, Sem.run_pure, Result.andThen_ok, invoke, Array.append_empty, Array.empty_append, List.map_toArray, List.map_cons, List.map_nil, hxv]
  rw [run_callFunc_extern m1 m2 m3 m4 m5, Lib.run_noEscape]
  rfl
 have hg0 := Guar.refl hs.og.wf
 refine ⟨_, w₁, _, hrun, ⟨hg0.wf, hg0.tape, hg0.os, hg0.output, hg0.size, hg0.block, hg0.own, hg0.fro, hg0.tok, ?_⟩, fun w₂ hr2 => hn _ _ _ _ hz (St.rely ⟨I, loc, hs.putD hv hd⟩ hr2)⟩
 have ht : zUM P ⟨fun _ => False, fun _ => False, none⟩ 0 (callFunc f #[v]) := by
  unfold callFunc
  refine TameV.bind tame_program fun p hp => ?_
  subst hp
  simp only [m1, m2, m3, m4, m5, Bool.false_eq_true, if_false, if_true]
  refine q7 zDz fun _ => ?_
  exact q7 q8 fun _ => q8
 have hev := (ht w₁ ⟨fun b hb => hb.elim (fun h => h.elim) (fun h => h.elim), Nat.zero_le _, fun b _ hb => hb.elim (fun h => h.elim) (fun h => h.elim)⟩).1 #[] .nil
 intro e he
 have he2 : e ∈ (callFunc f #[v]).events P w₁ #[] := by
  simp only [execOp, hop, resolve, hfv, Deferred.ofValue, Sem.events_bind, Sem.run_bind, Sem.run_pure, Result.andThen_ok, Result.evThen_ok, Sem.events_pure, invoke, Array.append_empty, Array.empty_append, List.map_toArray, List.map_cons, List.map_nil, hxv] at he
  exact he
 exact EvOK.mono (γ := ⟨fun _ => False, fun _ => False, none⟩) (n := w₁.heap.size) (fun _ (h : False) => h.elim) (fun _ (h : False) => h.elim) (hev e he2)
theorem zRw {k off sz : Nat} {ts : Array TypeId} {e : TypeId} (hop : o.op = .call ⟨.builtin .copy, #[x, y], ts⟩) (hg : o.guard = none) (hx : σ.ev x = .own k sz off 0) (hy : σ.ev y = .raw (.slice none 0 0))
  (ht : ts[0]?.bind (fun t => P.underlying t) = some (.slice e)) (hi : (P.info? e).isSome = true) (hd : ∀ d, o.dst = some d → d < σ.n) (hz : zUc P K r (σ.putD o.dst (.raw (.int .i64 0)))) : zUc P K (o :: r) σ := by
 cases h0 : ts[0]? with
 | none => rw [h0] at ht; cases ht
 | some t0 =>
  rw [h0] at ht
  have ht : P.underlying t0 = some (.slice e) := ht
  cases hj : P.info? e with
  | none => rw [hj] at hi; cases hi
  | some j =>
   refine ⟨hg, B1 _ (fun c e => by rw [hop] at e; cases e) hd (fun E I loc a w hsr => ?_) hz⟩
   have hv := hsr.ev x
   rw [hx] at hv
   have hw := J4 hsr hy
   have hv2 : ∃ ad c, a.eval x = .slice ad 0 c := by
    rcases hv.own_inv with ⟨_, _, _, h3⟩ | ⟨b, c, ad, cap, hl, h1, _⟩
    ·exact ⟨_, _, h3⟩
    ·exact ⟨_, _, h1⟩
   obtain ⟨ad, c, hv2⟩ := hv2
   have hrun : (Builtin.copy_ ts o.type #[.slice ad 0 c, .slice none 0 0]).run P w = .ok (.int .i64 0) w ∧ ∀ es, (Builtin.copy_ ts o.type #[.slice ad 0 c, .slice none 0 0]).events P w es = es := by
    unfold Builtin.copy_
    rw [h0]
    cases ad <;> simp [run_underlying ht, sizeOf, typeInfo, hj, Builtin.lenOf, Builtin.firstCells, storeCells, goInt]
   refine ⟨.int .i64 0, ?_, fun es => ?_, .pure (.raw _ rfl)⟩
   ·simp only [execOp, hop, resolve, invoke, Sem.run_bind, Sem.run_pure, Result.andThen_ok, builtin, List.map_toArray, List.map_cons, List.map_nil, hv2, hw]
    simp [builtin, hrun.1]
   ·simp only [execOp, hop, resolve, invoke, Sem.run_bind, Sem.run_pure, Result.andThen_ok, builtin, List.map_toArray, List.map_cons, List.map_nil, hv2, hw]
    simp [builtin, hrun.1, hrun.2]
theorem zRx {fo : Operand} {args : Array Operand} {ts : Array TypeId} {f : FuncId} {l : List Value} {v : Value} (hop : o.op = .call ⟨.value fo, args, ts⟩) (hg : o.guard = none) (hf : σ.ev fo = .raw (.func (.func f) #[] #[]))
  (hl : Q1 (args.toList.map σ.ev) = some l) (hx : zBD P f l v) (hd : ∀ d, o.dst = some d → d < σ.n) (hz : zUc P K r (σ.putD o.dst (.raw v))) : zUc P K (o :: r) σ :=
 ⟨hg, fun hst hn => zKS hst hop hf hl hx hd fun a' w' γ' hs => hn _ a' w' γ' hz hs⟩
theorem zKQ {f : FuncId} {fn : Func} {e : Array Value → Sem Value} {l : List Value} {v : Value} (m1 : P.funcs[f]? = some fn) (m2 : (fn.name == "runtime.NumGoroutine") = false) (m3 : fn.body.isNone = true) (m4 : Extern.findNext fn = none) (m5 : Extern.find fn = some e)
    (h1 : v.oneCell' = true) (hr : ∀ w, (e l.toArray).run P w = .ok v w) (he : ∀ w es, (e l.toArray).events P w es = es) : zBD P f l v := by
  refine ⟨h1, fun w => ⟨?_, fun γ n => ?_⟩⟩
  · rw [run_callFunc_extern m1 m2 m3 m4 m5, hr]; rfl
  · have ht : zUM P ⟨fun _ => False, fun _ => False, none⟩ 0 (callFunc f l.toArray) := by
      unfold callFunc
      refine TameV.bind tame_program fun p hp => ?_
      subst hp
      simp only [m1, m2, m3, m4, m5, Bool.false_eq_true, if_false, if_true]
      refine q7 zDz fun _ => ?_
      exact q7 (fun w hw => ⟨fun es hes => by rw [he]; exact hes, fun u w' hu => by rw [hr] at hu; cases hu; exact ⟨hw, trivial⟩⟩) fun _ => q8
    have hev := (ht w ⟨fun b hb => hb.elim (fun h => h.elim) (fun h => h.elim), Nat.zero_le _, fun b _ hb => hb.elim (fun h => h.elim) (fun h => h.elim)⟩).1 #[] .nil
    exact fun e he => EvOK.mono (γ := ⟨fun _ => False, fun _ => False, none⟩) (n := n) (fun _ (h : False) => h.elim) (fun _ (h : False) => h.elim) (hev e he)
end
end Go.Abs

namespace Go.Abs
open Go Go.Proofs Go.RowKit
attribute [local irreducible] q9 Hold y2
variable [Cur]
abbrev zUv : TypeId := 245
theorem zAX : ∃ j, Tryz.prog.info? zUv = some j ∧ j.size = 2 := zBY (by kernel_rfl)
theorem C7 : zVm Tryz.prog 242 := let ⟨j, h, _⟩ := zAX; ⟨_, j, Tryz.underlying242, h⟩
theorem zGT : zG4 Tryz.prog 181 := ⟨_, Tryz.func181, by kernel_rfl, by kernel_rfl, by kernel_rfl, by kernel_rfl⟩
@[go_sem] theorem zTH : zVz Tryz.prog 5 := ⟨_, #[3], _, Tryz.func182, by kernel_rfl, by kernel_rfl, by kernel_rfl, by kernel_rfl, Tryz.underlying243⟩
@[go_sem] theorem zTG : y9 Tryz.prog 182 = false := by kernel_rfl
@[go_sem] theorem zSY : Tryz.prog.cellsOf 5 = 1 := by kernel_rfl
@[go_sem] theorem zSZ : Tryz.prog.underlying 295 = some (.pointer 5) := Tryz.underlying295
@[go_sem] theorem zTa (c : UInt8) : UInt8.ofNat c.toNat = c := UInt8.ofNat_toNat
@[go_sem] theorem zUD (t : Str) : zU9 ⟨t.toArray⟩ = t.map fun c => .raw (.int .u8 (c.toNat : Int)) := rfl
theorem zPK : zUL Tryz.prog 157 [.ptr 0 0] [.tbox zUv [.any, .raw (.slice none 0 0)]] (.tup []) [.tbox zUv [.any, .raw (.slice none 0 0)]] := by
 refine z9 Tryz.func157 rfl (fun E hE => ?_); simp only [go_sem, Tryz.ntmps157]
 refine zG3 0 rfl ?_ ?_
 ·refine Qh rfl ?_
  refine P5 rfl ?_
  simp only [go_sem]
  iterate 4 (refine zU0 rfl ?_; simp only [go_sem, *])
  refine zIE rfl rfl C7 rfl rfl ?_ ?_
  (focus (intro d h; cases h; simp only [go_sem, *]; try omega))
  simp only [go_sem, *]
  refine O1 ?_
  repeat' (first | ((refine P5 rfl ?_)) | (refine Qr rfl ?_; try intro _ hK; try simp only [go_sem, *]) | refine Qh rfl ?_ | (refine Qc rfl rfl ?_ ?_ <;> (intro hb; have hc := hb; try simp only [go_sem] at hc)) | refine z8 rfl ?_ | ((with_reducible apply And.intro); focus omega) | (refine z7 hK ?_; clear hK; simp only [go_sem, *]) | simp only [z6, z5, go_sem, *])
  clear hb hc
  iterate 2 (refine zU0 rfl ?_; simp only [go_sem, *])
  refine zIJ rfl rfl rfl rfl Tryz.underlying242 Tryz.underlying211 zAX ?_ ?_
  (focus (intro d h; cases h; simp only [go_sem, *]; try omega))
  simp only [go_sem, *]
  refine zII rfl rfl rfl rfl zGT ?_ ?_
  (focus (intro d h; cases h; simp only [go_sem, *]; try omega))
  simp only [go_sem, *]
  refine zIH rfl rfl rfl rfl Tryz.underlying211 Tryz.underlying242 zAX (by kernel_rfl) ?_ ?_
  (focus (intro d h; cases h; simp only [go_sem, *]; try omega))
  simp only [go_sem, *]
  iterate 3 (refine zU0 rfl ?_; simp only [go_sem, *])
  refine O1 ?_
  refine ⟨[], [some 0], [], trivial, ?_⟩
  simp only [go_sem, *]
 ·refine Qh rfl ?_
  refine P5 rfl ?_
  simp only [go_sem]
  iterate 4 (refine zU0 rfl ?_; simp only [go_sem, *])
  refine zIF rfl rfl C7 rfl rfl ?_ ?_
  (focus (intro d h; cases h; simp only [go_sem, *]; try omega))
  simp only [go_sem, *]
  refine O1 ?_
  repeat' (first | ((refine P5 rfl ?_)) | (refine Qr rfl ?_; try intro _ hK; try simp only [go_sem, *]) | refine Qh rfl ?_ | (refine Qc rfl rfl ?_ ?_ <;> (intro hb; have hc := hb; try simp only [go_sem] at hc)) | refine z8 rfl ?_ | ((with_reducible apply And.intro); focus omega) | (refine z7 hK ?_; clear hK; simp only [go_sem, *]) | simp only [z6, z5, go_sem, *])
  clear hb hc
  iterate 5 (refine zU0 rfl ?_; simp only [go_sem, *])
  refine zIG rfl rfl C7 rfl rfl ?_ ?_
  (focus (intro d h; cases h; simp only [go_sem, *]; try omega))
  simp only [go_sem, *]
  refine O1 ?_
  refine zG1 0 rfl ?_
  simp only [go_sem, *]
  repeat' (first | (refine Qr rfl ?_; try intro _ hK; try simp only [go_sem, *]) | refine Qh rfl ?_ | (refine Qc rfl rfl ?_ ?_ <;> (intro hb; have hc := hb; try simp only [go_sem] at hc)) | refine z8 rfl ?_ | ((with_reducible apply And.intro); focus omega) | (refine z7 hK ?_; clear hK; simp only [go_sem, *]) | simp only [z6, z5, go_sem, *])
  refine ⟨[], [some 0], [], trivial, ?_⟩
  simp only [go_sem, *]
theorem zPL (l : Str) : zUL Tryz.prog 157 [.ptr 0 0] [.tbox zUv [.any, .own 1 1 0 l.length], .brow 5 l] (.tup []) [.tbox zUv [.any, .own 1 1 0 l.length], .brow 5 l] := by
 refine z9 Tryz.func157 rfl (fun E hE => ?_); simp only [go_sem, Tryz.ntmps157]
 refine zG3 0 rfl ?_ ?_
 ·refine Qh rfl ?_
  refine P5 rfl ?_
  simp only [go_sem]
  iterate 4 (refine zU0 rfl ?_; simp only [go_sem, *])
  refine zIE rfl rfl C7 rfl rfl ?_ ?_
  (focus (intro d h; cases h; simp only [go_sem, *]; try omega))
  simp only [go_sem, *]
  refine O1 ?_
  repeat' (first | ((refine P5 rfl ?_)) | (refine Qr rfl ?_; try intro _ hK; try simp only [go_sem, *]) | refine Qh rfl ?_ | (refine Qc rfl rfl ?_ ?_ <;> (intro hb; have hc := hb; try simp only [go_sem] at hc)) | refine z8 rfl ?_ | ((with_reducible apply And.intro); focus omega) | (refine z7 hK ?_; clear hK; simp only [go_sem, *]) | simp only [z6, z5, go_sem, *])
  clear hb hc
  iterate 2 (refine zU0 rfl ?_; simp only [go_sem, *])
  refine zIJ rfl rfl rfl rfl Tryz.underlying242 Tryz.underlying211 zAX ?_ ?_
  (focus (intro d h; cases h; simp only [go_sem, *]; try omega))
  simp only [go_sem, *]
  refine zII rfl rfl rfl rfl zGT ?_ ?_
  (focus (intro d h; cases h; simp only [go_sem, *]; try omega))
  simp only [go_sem, *]
  refine zIH rfl rfl rfl rfl Tryz.underlying211 Tryz.underlying242 zAX (by kernel_rfl) ?_ ?_
  (focus (intro d h; cases h; simp only [go_sem, *]; try omega))
  simp only [go_sem, *]
  iterate 3 (refine zU0 rfl ?_; simp only [go_sem, *])
  refine O1 ?_
  refine ⟨[], [some 0, some 1], [], trivial, ?_⟩
  simp only [go_sem, *]
 ·refine Qh rfl ?_
  refine P5 rfl ?_
  simp only [go_sem]
  iterate 4 (refine zU0 rfl ?_; simp only [go_sem, *])
  refine zIF rfl rfl C7 rfl rfl ?_ ?_
  (focus (intro d h; cases h; simp only [go_sem, *]; try omega))
  simp only [go_sem, *]
  refine O1 ?_
  repeat' (first | ((refine P5 rfl ?_)) | (refine Qr rfl ?_; try intro _ hK; try simp only [go_sem, *]) | refine Qh rfl ?_ | (refine Qc rfl rfl ?_ ?_ <;> (intro hb; have hc := hb; try simp only [go_sem] at hc)) | refine z8 rfl ?_ | ((with_reducible apply And.intro); focus omega) | (refine z7 hK ?_; clear hK; simp only [go_sem, *]) | simp only [z6, z5, go_sem, *])
  clear hb hc
  iterate 5 (refine zU0 rfl ?_; simp only [go_sem, *])
  refine zIG rfl rfl C7 rfl rfl ?_ ?_
  (focus (intro d h; cases h; simp only [go_sem, *]; try omega))
  simp only [go_sem, *]
  refine O1 ?_
  refine zG1 0 rfl ?_
  simp only [go_sem, *]
  repeat' (first | (refine Qr rfl ?_; try intro _ hK; try simp only [go_sem, *]) | refine Qh rfl ?_ | (refine Qc rfl rfl ?_ ?_ <;> (intro hb; have hc := hb; try simp only [go_sem] at hc)) | refine z8 rfl ?_ | ((with_reducible apply And.intro); focus omega) | (refine z7 hK ?_; clear hK; simp only [go_sem, *]) | simp only [z6, z5, go_sem, *])
  refine ⟨[], [some 0, some 1], [], trivial, ?_⟩
  simp only [go_sem, *]
@[go_sem] theorem zUI : IntKind.i64.wrap (IntKind.i64.wrap (2 * 0) + 1) = 1 := by decide
@[go_sem] theorem zUH : (1 : Int).toNat = 1 := rfl
@[go_sem] theorem zTE : ((0 : Int) ≤ 1) = True := by decide
@[go_sem] theorem zTF : ((1 : Int) ≤ 1000000) = True := by decide
theorem zPE : zUL Tryz.prog 158 [.ptr 0 0, iV 1] [.tbox zUv [.any, .raw (.slice none 0 0)]] (.tup []) [.tbox zUv [.any, .own 1 1 0 0], .brow 5 []] := by
 refine z9 Tryz.func158 rfl (fun E hE => ?_); simp only [go_sem, Tryz.ntmps158]
 repeat' (first | ((refine P5 rfl ?_)) | (refine Qr rfl ?_; try intro _ hK; try simp only [go_sem, *]) | refine Qh rfl ?_ | refine Qd rfl (by kernel_rfl) ?_ | (refine Qc rfl rfl ?_ ?_ <;> (intro hb; have hc := hb; try simp only [go_sem] at hc)) | refine z8 rfl ?_ | (refine Qb ?_ ?_; focus kernel_rfl) | ((with_reducible apply And.intro); focus omega) | (refine z7 hK ?_; clear hK; simp only [go_sem, *]) | simp only [z6, z5, go_sem, *])
 iterate 5 (refine zU0 rfl ?_; simp only [go_sem, *])
 refine zRw rfl rfl rfl rfl (e := 5) Tryz.underlying243 (by kernel_rfl) ?_ ?_
 (focus (intro d h; cases h; simp only [go_sem, *]; try omega))
 simp only [go_sem, *]
 refine O1 ?_
 repeat' (first | (refine Qr rfl ?_; try intro _ hK; try simp only [go_sem, *]) | refine Qh rfl ?_ | refine Qd rfl (by kernel_rfl) ?_ | (refine Qc rfl rfl ?_ ?_ <;> (intro hb; have hc := hb; try simp only [go_sem] at hc)) | refine z8 rfl ?_ | (refine Qb ?_ ?_; focus kernel_rfl) | ((with_reducible apply And.intro); focus omega) | (refine z7 hK ?_; clear hK; simp only [go_sem, *]) | simp only [z6, z5, go_sem, *])
 refine ⟨[], [some 0, some 1], [], trivial, ?_⟩
 simp only [go_sem, *]
theorem zOq : zUL Tryz.prog 126 [.ptr 0 0, iV 1] [.tbox zUv [.any, .raw (.slice none 0 0)]] (.tup []) [.tbox zUv [.any, .own 1 1 0 0], .brow 5 []] := by
 refine z9 Tryz.func126 rfl (fun E hE => ?_); simp only [go_sem, Tryz.ntmps126]
 repeat' (first | (refine Qr rfl ?_; try intro _ hK; try simp only [go_sem, *]) | refine Qh rfl ?_ | refine Qd rfl (by kernel_rfl) ?_ | (refine Qc rfl rfl ?_ ?_ <;> (intro hb; have hc := hb; try simp only [go_sem] at hc)) | refine z8 rfl ?_ | (refine Qb ?_ ?_; focus kernel_rfl) | (refine x7 [0] [] (zPK) (by simp) ?_ ?_ (by simp) (.inl rfl) ?_ ?_ ?_; (iterate 2 (focus (simp only [go_sem, *]; done))); (iterate 2 (focus (first | (simp; done) | (simp [go_sem]; done)))); simp only [go_sem, *]) | (refine x7 [0] [] (zPE) (by simp) ?_ ?_ (by simp) (.inl rfl) ?_ ?_ ?_; (iterate 2 (focus (simp only [go_sem, *]; done))); (iterate 2 (focus (first | (simp; done) | (simp [go_sem]; done)))); simp only [go_sem, *]) | ((with_reducible apply And.intro); focus omega) | (refine z7 hK ?_; clear hK; simp only [go_sem, *]) | simp only [z6, z5, go_sem, *])
 all_goals first | exact absurd hc (by decide) | (refine ⟨[], [some 0, some 1], [], trivial, ?_⟩; simp only [go_sem, *])
theorem zPA (l : Str) (c : UInt8) (h : l.length ≤ 1000000) : zUL Tryz.prog 128 [.ptr 0 0, .raw (.int .u8 (c.toNat : Int))] [.tbox zUv [.any, .own 1 1 0 l.length], .brow 5 l] (.raw .nilIface)
  [.tbox zUv [.any, .own 2 1 0 (l ++ [c]).length], .dead, .brow 5 (l ++ [c])] := by
 have hc : (c.toNat : Int) < 256 := by have := c.toNat_lt; omega
 refine z9 Tryz.func128 rfl (fun E hE => ?_); simp only [go_sem, Tryz.ntmps128]
 repeat' (first | (refine Qr rfl ?_; try intro _ hK; try simp only [go_sem, *]) | refine Qh rfl ?_ | (refine Qc rfl rfl ?_ ?_ <;> (intro hb; have hc := hb; try simp only [go_sem] at hc)) | refine z8 rfl ?_ | (refine u9 [0, 1] (zPL l) ?_; simp only [go_sem, *]) | ((with_reducible apply And.intro); focus omega) | (refine z7 hK ?_; clear hK; simp only [go_sem, *]) | simp only [z6, z5, go_sem, *])
 refine ⟨[_], [some 0, some 1, some 3], [], ⟨rfl, trivial⟩, ?_⟩
 simp only [go_sem, *]
theorem zOY (c : UInt8) (r : Str) (h : r.length ≤ 1000000) : zUL Tryz.prog 129 [.ptr 0 0] [.tbox zUv [.any, .own 1 1 0 (c :: r).length], .brow 5 (c :: r)] (sV (c :: r)) [.dead, .dead] := by
 simp only [List.length_cons]
 refine z9 Tryz.func129 rfl (fun E hE => ?_); simp only [go_sem, Tryz.ntmps129]
 repeat' (first | (refine Qr rfl ?_; try intro _ hK; try simp only [go_sem, *]) | refine Qh rfl ?_ | refine Qd rfl (by kernel_rfl) ?_ | (refine Qc rfl rfl ?_ ?_ <;> (intro hb; have hc := hb; try simp only [go_sem] at hc)) | refine z8 rfl ?_ | (refine Qb ?_ ?_; focus kernel_rfl) | ((with_reducible apply And.intro); focus omega) | (refine z7 hK ?_; clear hK; simp only [go_sem, *]) | simp only [z6, z5, go_sem, *])
 refine ⟨[_], [some 0, some 1], [], ⟨rfl, trivial⟩, ?_⟩
 simp only [go_sem, *]
end Go.Abs

namespace Go.Abs
open Go Go.Proofs Go.RowKit
attribute [local irreducible] q9 Hold y2
variable [Cur]
def zVW (c : UInt8) : Str := if 65 ≤ c.toNat ∧ c.toNat ≤ 90 then [c + 32] else [c]
def zWC (_ : Nat) : Prop := True
theorem zPt (c : UInt8) (h : c.toNat < 128) (hu : ¬ (65 ≤ c.toNat ∧ c.toNat ≤ 90)) : zUL Tryz.prog 101 [sV [c]] [] (sV [c]) [] := by
 refine z9 Tryz.func101 rfl (fun E hE => ?_); simp only [go_sem, Tryz.ntmps101]
 refine wk1 trivial ?_
 refine x8 rfl (1) (fun i => zWC i) 78 (fun i => [(5, iV i), (4, bV false), (3, bV true), (0, sV [c])]) (fun i => []) [] [] (by trivial) ?_; intro i hi hP
 have hg : i < 1 → ¬ (65 ≤ ([c].getD i 0).toNat ∧ ([c].getD i 0).toNat ≤ 90) ∧ ([c].getD i 0).toNat < 128 := by
  intro hi; have : i = 0 := by omega
  subst this; exact ⟨hu, h⟩
 repeat' (first | (refine Qr rfl ?_; try intro _ hK; try simp only [go_sem, *]) | (refine Qi rfl rfl rfl rfl ?_ ?_ <;> (intro hb; (try intro _ hK); have hc := hb; try simp only [go_sem] at hc; simp only [go_sem, *])) | refine Qh rfl ?_ | (refine Qc rfl rfl ?_ ?_ <;> (intro hb; have hc := hb; try simp only [go_sem] at hc)) | refine z8 rfl ?_ | ((with_reducible apply And.intro); focus omega) | (refine z7 hK ?_; clear hK; simp only [go_sem, *]) | simp only [z6, z5, go_sem, *])
 ·exfalso; have := hg (by omega); omega
 ·have e : decide ((([c].getD i 0).toNat : Int) ≤ 90) = false := by { have := hg (by omega); simp only [decide_eq_false_iff_not]; omega }
  clear hg; exact y8 (i' := i + 1) [] [] (by trivial)
 ·clear hg; exact y8 (i' := i + 1) [] [] (by trivial)
 ·(refine ⟨[_], [], [], ⟨rfl, trivial⟩, ?_⟩; simp only [go_sem, *])
def Tk (c : UInt8) (k : Nat) (a : Str) : Prop := a = ([c + 32] : Str).take k
def Qx (i : Nat) (q : Bool) : Prop := 1 ≤ i → q = true
theorem zPu (c : UInt8) (hu : 65 ≤ c.toNat ∧ c.toNat ≤ 90) : zUL Tryz.prog 101 [sV [c]] [] (sV [c + 32]) [] := by
 refine z9 Tryz.func101 rfl (fun E hE => ?_); simp only [go_sem, Tryz.ntmps101]
 refine wk1 trivial ?_
 refine Q8 rfl (1) (fun i (q : Bool) => Qx i q) 78 (fun i q => [(5, iV i), (4, bV q), (3, bV true), (0, sV [c])]) (fun i q => []) [] [] (false) (by exact (fun h => absurd h (by omega))) ?_; intro i q hi hP
 have hg : i < 1 → (65 ≤ ([c].getD i 0).toNat ∧ ([c].getD i 0).toNat ≤ 90) := by
  intro hi; have : i = 0 := by omega
  subst this; exact hu
 repeat' (first | ((refine zN0 (t := zUv) rfl rfl rfl rfl rfl 0 rfl ?_ ?_)) | (refine Qr rfl ?_; try intro _ hK; try simp only [go_sem, *]) | (refine Qi rfl rfl rfl rfl ?_ ?_ <;> (intro hb; (try intro _ hK); have hc := hb; try simp only [go_sem] at hc; simp only [go_sem, *])) | refine Qh rfl ?_ | (refine Qc rfl rfl ?_ ?_ <;> (intro hb; have hc := hb; try simp only [go_sem] at hc)) | refine z8 rfl ?_ | (refine u9 [0] (zOq) ?_; simp only [go_sem, *]) | ((with_reducible apply And.intro); focus omega) | (refine z7 hK ?_; clear hK; simp only [go_sem, *]) | simp only [z6, z5, go_sem, *])
 ·exfalso; have := hg (by omega); omega
 ·have hq : Qx (i + 1) (decide ((([c].getD i 0).toNat : Int) ≤ 90)) := fun _ => by { have := hg (by omega); simp only [decide_eq_true_eq]; omega }
  clear hg; exact r7 (i' := i + 1) [] [] (decide ((([c].getD i 0).toNat : Int) ≤ 90)) (by exact hq)
 ·exfalso; have := hg (by omega); omega
 ·clear hg; exact r7 (i' := i + 1) [] [] (true) (by exact (fun _ => rfl))
 ·exfalso; have := hP (by omega); subst this; cases hb
 clear hP hg hb hc
 refine Q8 rfl (1) (fun k (a2 : Str) => Tk c k a2) 78 (fun k a2 => [(9, iV k), (8, iV k), (7, .ptr 0 0), (0, sV [c])]) (fun k a2 => [.tbox zUv [.any, .own 1 1 0 a2.length], .brow 5 a2]) [some 0, some 1] [] (([] : Str)) (by exact rfl) ?_; intro k a2 hk hP2
 by_cases hk1 : k < 1
 ·have hk0 : k = 0 := by omega
  have hw8 : IntKind.u8.wrap ((([c].getD k 0).toNat : Int) + 32) = ((c + 32).toNat : Int) := by
   subst hk0
   have : (c + 32).toNat = c.toNat + 32 := by rw [UInt8.toNat_add]; simp; omega
   rw [this, IntKind.wrap_u8]; simp; omega
  have hg : (65 ≤ ([c].getD k 0).toNat ∧ ([c].getD k 0).toNat ≤ 90) := by subst hk0; exact hu
  have hn : Tk c (k + 1) (a2 ++ [c + 32]) := by subst hk0; rw [show a2 = [] from hP2]; rfl
  have hl : a2.length ≤ 1000000 := by subst hk0; rw [show a2 = [] from hP2]; simp
  clear hk0 hP2
  have sw := zPA a2 (c + 32) hl
  repeat' (first | (refine Qr rfl ?_; try intro _ hK; try simp only [go_sem, *]) | (refine Qi rfl rfl rfl rfl ?_ ?_ <;> (intro hb; (try intro _ hK); have hc := hb; try simp only [go_sem] at hc; simp only [go_sem, *])) | refine Qh rfl ?_ | (refine Qc rfl rfl ?_ ?_ <;> (intro hb; have hc := hb; try simp only [go_sem] at hc)) | refine z8 rfl ?_ | (refine u9 [0, 1] (sw) ?_; simp only [go_sem, *]) | ((with_reducible apply And.intro); focus omega) | (refine z7 hK ?_; clear hK; simp only [go_sem, *]) | simp only [z6, z5, go_sem, *])
  all_goals first
   | (exfalso; omega)
   | (clear sw hl hg; exact r7 (i' := k + 1) [some 0, some 2] [] (a2 ++ [c + 32]) (by exact hn))
 ·have : k = 1 := by omega
  subst this
  have : a2 = [c + 32] := hP2
  subst this
  have sb := zOY (c + 32) [] (by simp)
  simp only [List.length_cons, List.length_nil, Nat.zero_add] at sb
  refine wk1 (own [0, 1] (sb)) ?_
  all_goals (refine ⟨[_], [], [], ⟨rfl, trivial⟩, ?_⟩; simp only [go_sem, *])
end Go.Abs

namespace Go.Abs
open Go Go.Proofs Go.RowKit Go.Extern.Stop Go.Stop Go.Extern
theorem zIx (t : Value) (w : World) : Calls Tryz.prog 87 #[.nilIface, t] w fun e w' => e = .returned (.bool false) ∧ w' = w := by
 go_enter Tryz.func87, Tryz.ntmps87
 go_wp2
 go_ret
 exact ⟨rfl, rfl⟩
abbrev hdl (t : Nat) : Value := .pointer (some ⟨8, t, none⟩)
theorem zI5 (t : Addr) (w : World) : (ReflectliteValue.unpack (.iface 174 (.pointer (some t)))).run Tryz.prog w
  = .ok (.agg #[hdl 174, .pointer (some ⟨w.heap.size, 0, none⟩), .int .u64 150]) (w.alloc (.cells #[.pointer (some t)] 174)) := by kernel_rfl
theorem zI3 (a : Addr) (w : World) : (ReflectliteValue.methodAny (ReflectliteValue.valueError "reflectlite.Value.Type" 0) (fun t _ _ _ => ReflectliteType.toType t) #[.agg #[hdl 174, .pointer (some a), .int .u64 150]]).run Tryz.prog w
  = .ok (.iface 257 (.agg #[hdl 174])) w := by kernel_rfl
theorem zIr (w : World) : ((ReflectliteType.abiMethod fun t => Functor.map (fun a : Nat => Value.int IntKind.u8 (a : Int)) (Rtype.kind t)) #[hdl 174]).run Tryz.prog w = .ok (.int .u8 22) w := by kernel_rfl
theorem zIq (w : World) : ((ReflectliteType.abiMethod fun t => Functor.map (fun a : Nat => Value.int IntKind.u8 (a : Int)) (Rtype.kind t)) #[hdl 172]).run Tryz.prog w = .ok (.int .u8 24) w := by kernel_rfl
theorem zER (z : Sem Value) (f : TypeId → Addr → Nat → Nat → Sem Value) (v : Value) :
  ReflectliteValue.method z f #[v] = (do match ← ReflectliteValue.parts v with | none => z | some (t, a, fl) => f t a fl (fl % 32)) := rfl
theorem zEQ (a : Addr) (w : World) : (ReflectliteValue.parts (.agg #[hdl 174, .pointer (some a), .int .u64 150])).run Tryz.prog w = .ok (some (174, a, 150)) w := by kernel_rfl
theorem zIp (a p : Addr) (W : World) (ha : W.cell? a = some (.pointer (some p))) :
  (ReflectliteValue.method (ReflectliteValue.valueError "reflectlite.Value.IsNil" 0) ReflectliteValue.isNil #[.agg #[hdl 174, .pointer (some a), .int .u64 150]]).run Tryz.prog W = .ok (.bool false) W := by
 rw [zER]
 simp only [Sem.run_bind, zEQ, Result.andThen]
 simp [ReflectliteValue.isNil, loadVar, isAgg, underlying, Tryz.underlying174, ha, Result.andThen]
theorem zIk (w : World) : (ReflectliteType.method ReflectliteType.elem #[.agg #[hdl 174]]).run Tryz.prog w = .ok (.iface 257 (.agg #[hdl 172])) w := by kernel_rfl
theorem zIo (w : World) : (ReflectliteType.relation "Implements" ReflectliteType.implements_ #[.agg #[hdl 172], .iface 257 (.agg #[hdl 169])]).run Tryz.prog w = .ok (.bool true) w := by kernel_rfl
theorem zI2 (v : Value) (w : World) : (ReflectliteType.typeOf #[.iface 172 v]).run Tryz.prog w = .ok (.iface 257 (.agg #[hdl 172])) w := by kernel_rfl
theorem zIh (w : World) : (ReflectliteType.relation "AssignableTo" ReflectliteType.assignableTo #[.agg #[hdl 172], .iface 257 (.agg #[hdl 172])]).run Tryz.prog w = .ok (.bool true) w := by kernel_rfl
theorem zIv (h : Value) (w : World) : (Go.method 546 257 (.agg #[h]) "Kind").run Tryz.prog w = .ok (280, h) w := by kernel_rfl
theorem zIt (h : Value) (w : World) : (Go.method 546 257 (.agg #[h]) "Elem").run Tryz.prog w = .ok (333, .agg #[h]) w := by kernel_rfl
theorem zIu (h : Value) (w : World) : (Go.method 546 257 (.agg #[h]) "Implements").run Tryz.prog w = .ok (334, .agg #[h]) w := by kernel_rfl
theorem zIs (h : Value) (w : World) : (Go.method 546 257 (.agg #[h]) "AssignableTo").run Tryz.prog w = .ok (331, .agg #[h]) w := by kernel_rfl
theorem zI4 (b : ByteArray) (w : World) : (ReflectliteValue.unpack (.iface 172 (.string b))).run Tryz.prog w
  = .ok (.agg #[hdl 172, .pointer (some ⟨w.heap.size, 0, none⟩), .int .u64 152]) (w.alloc (.cells #[.string b] 172)) := by kernel_rfl
theorem zIj (w : World) : (Rtype.elem? 174).run Tryz.prog w = .ok (some 172) w := by kernel_rfl
theorem zIw (p : Addr) (w : World) : (ReflectliteValue.mk 172 p ReflectliteValue.flagAddr).run Tryz.prog w = .ok (.agg #[hdl 172, .pointer (some p), .int .u64 408]) w := by kernel_rfl
theorem zIl (a p : Addr) (W : World) (ha : W.cell? a = some (.pointer (some p))) :
  (ReflectliteValue.method (ReflectliteValue.valueError "reflectlite.Value.Elem" 0) ReflectliteValue.elem #[.agg #[hdl 174, .pointer (some a), .int .u64 150]]).run Tryz.prog W
   = .ok (.agg #[hdl 172, .pointer (some p), .int .u64 408]) W := by
 rw [zER]
 simp only [Sem.run_bind, zEQ, Result.andThen]
 simp [ReflectliteValue.elem, loadVar, isAgg, underlying, Tryz.underlying174, ha, Result.andThen, zIj, zIw]
theorem zI0 (v x : Value) : ∃ (A : Sem Value) (B C : Sem PUnit) (D : String → String → Sem PUnit), ReflectliteValue.set #[v, x] = (do
  let (some (dst, a, fl), some (src, b, _)) := (← ReflectliteValue.parts v, ← ReflectliteValue.parts x)
   | A
  if fl / ReflectliteValue.flagAddr % 2 == 0 then B
  let val ← loadVar src b
  if ← Rtype.directlyAssignable dst src then storeVar dst a val
  else if ← Rtype.implements dst src then
   if (← Rtype.kind src) == 20 then
    match val with
    | .nilIface => C
    | _ => storeVar dst a val
   else storeVar dst a (.iface src val)
  else D (← Rtype.spelt src) (← Rtype.spelt dst)
  pure (.tuple #[])) := by
 refine ⟨?_, ?_, ?_, ?_, ?_⟩
 rotate_left 4
 ·rfl
theorem zIz (a : Addr) (w : World) : (ReflectliteValue.parts (.agg #[hdl 172, .pointer (some a), .int .u64 408])).run Tryz.prog w = .ok (some (172, a, 408)) w := by kernel_rfl
theorem zIy (a : Addr) (w : World) : (ReflectliteValue.parts (.agg #[hdl 172, .pointer (some a), .int .u64 152])).run Tryz.prog w = .ok (some (172, a, 152)) w := by kernel_rfl
theorem zIi (w : World) : (Rtype.directlyAssignable 172 172).run Tryz.prog w = .ok true w := by kernel_rfl
theorem zI1 (ta b : Addr) (s : ByteArray) (old : Value) (W : World) (hb : W.cell? b = some (.string s)) (ht : W.cell? ta = some old) (hf : W.frozen? ta = false) :
  (ReflectliteValue.set #[.agg #[hdl 172, .pointer (some ta), .int .u64 408], .agg #[hdl 172, .pointer (some b), .int .u64 152]]).run Tryz.prog W
   = .ok (.tuple #[]) (W.setCell ta (.string s)) := by
 obtain ⟨A, B, C, D, hset⟩ := zI0 (.agg #[hdl 172, .pointer (some ta), .int .u64 408]) (.agg #[hdl 172, .pointer (some b), .int .u64 152])
 rw [hset]
 simp only [Sem.run_bind, zIz, zIy, Result.andThen]
 simp [ReflectliteValue.flagAddr, loadVar, isAgg, underlying, Tryz.underlying172, hb, Result.andThen, zIi, storeVar, Value.cells, storeCells, Addr.add]
 rw [run_store Tryz.prog W ta _ _ (by rfl)]
 simp [ht, hf]
set_option maxHeartbeats 4000000 in
theorem zIm (b : ByteArray) (t : Addr) (old : Value) (w : World) (hg : w.cell? ⟨0, 0, none⟩ = some (.iface 257 (.agg #[hdl 169]))) (ht0 : w.cell? t = some old) (hf0 : w.frozen? t = false) :
  Calls Tryz.prog 87 #[.iface 172 (.string b), .iface 174 (.pointer (some t))] w fun ev w' => ev = .returned (.bool true) ∧ w' = ((((w.alloc (.cells #[.pointer (some t)] 174)).alloc (.cells #[hdl 174, .pointer (some ⟨w.heap.size, 0, none⟩), .int .u64 150] 214)).alloc (.cells #[hdl 174, .pointer (some ⟨w.heap.size, 0, none⟩), .int .u64 150] 214)).alloc (.cells #[.string b] 172)).setCell t (.string b) := by
 have h6 := @run_callFunc_extern Tryz.prog 108 _ (fun args => ReflectliteValue.unpack (args.getD 0 (.tuple #[]))) Tryz.func108 (by kernel_rfl) (by kernel_rfl) (by kernel_rfl) (by kernel_rfl)
 have h7 := @run_callFunc_extern Tryz.prog 109 _ (ReflectliteValue.methodAny (ReflectliteValue.valueError "reflectlite.Value.Type" 0) (fun t _ _ _ => ReflectliteType.toType t)) Tryz.func109 (by kernel_rfl) (by kernel_rfl) (by kernel_rfl) (by kernel_rfl)
 have h8 := @run_callFunc_extern Tryz.prog 110 _ (ReflectliteValue.method (ReflectliteValue.valueError "reflectlite.Value.IsNil" 0) ReflectliteValue.isNil) Tryz.func110 (by kernel_rfl) (by kernel_rfl) (by kernel_rfl) (by kernel_rfl)
 have h27 := @run_callFunc_extern Tryz.prog 280 _ (ReflectliteType.abiMethod fun t => do pure (.int .u8 (← Rtype.kind t))) Tryz.func280 (by kernel_rfl) (by kernel_rfl) (by kernel_rfl) (by kernel_rfl)
 have h37 := @run_callFunc_extern Tryz.prog 333 _ (ReflectliteType.method ReflectliteType.elem) Tryz.func333 (by kernel_rfl) (by kernel_rfl) (by kernel_rfl) (by kernel_rfl)
 have h38 := @run_callFunc_extern Tryz.prog 334 _ (ReflectliteType.relation "Implements" ReflectliteType.implements_) Tryz.func334 (by kernel_rfl) (by kernel_rfl) (by kernel_rfl) (by kernel_rfl)
 have h10 := @run_callFunc_extern Tryz.prog 136 _ ReflectliteType.typeOf Tryz.func136 (by kernel_rfl) (by kernel_rfl) (by kernel_rfl) (by kernel_rfl)
 have h35 := @run_callFunc_extern Tryz.prog 331 _ (ReflectliteType.relation "AssignableTo" ReflectliteType.assignableTo) Tryz.func331 (by kernel_rfl) (by kernel_rfl) (by kernel_rfl) (by kernel_rfl)
 have h11 := @run_callFunc_extern Tryz.prog 137 _ (ReflectliteValue.method (ReflectliteValue.valueError "reflectlite.Value.Elem" 0) ReflectliteValue.elem) Tryz.func137 (by kernel_rfl) (by kernel_rfl) (by kernel_rfl) (by kernel_rfl)
 have h12 := @run_callFunc_extern Tryz.prog 138 _ ReflectliteValue.set Tryz.func138 (by kernel_rfl) (by kernel_rfl) (by kernel_rfl) (by kernel_rfl)
 have tO := zI2
 have mA := zIs
 have aO := zIh
 have vO := zI4
 have f6 := zI5
 have f7 := zI3
 have mK := zIv
 have mE := zIt
 have mI := zIu
 have kP := zIr
 have kO := zIq
 have eP := zIk
 have iO := zIo
 have n8 := zIp ⟨w.heap.size, 0, none⟩ t ((w.alloc (.cells #[.pointer (some t)] 174)).alloc (.cells #[hdl 174, .pointer (some ⟨w.heap.size, 0, none⟩), .int .u64 150] 214)) (by simp)
 have hlt : 0 < w.heap.size := by
  rcases Nat.eq_zero_or_pos w.heap.size with h0 | h
  ·simp [World.cell?, h0] at hg
  ·exact h
 have hg2 : ((w.alloc (.cells #[.pointer (some t)] 174)).alloc (.cells #[hdl 174, .pointer (some ⟨w.heap.size, 0, none⟩), .int .u64 150] 214)).cell? ⟨0, 0, none⟩ = some (.iface 257 (.agg #[hdl 169])) := by
  rw [World.cell?_alloc_lt _ _ ⟨0, 0, none⟩ (by simp), World.cell?_alloc_lt _ _ ⟨0, 0, none⟩ hlt]; exact hg
 have htl : t.block < w.heap.size := by
  rcases Nat.lt_or_ge t.block w.heap.size with h | h
  ·exact h
  ·simp [World.cell?, Array.getElem?_eq_none h] at ht0
 have el := zIl ⟨w.heap.size, 0, none⟩ t (((w.alloc (.cells #[.pointer (some t)] 174)).alloc (.cells #[hdl 174, .pointer (some ⟨w.heap.size, 0, none⟩), .int .u64 150] 214)).alloc (.cells #[hdl 174, .pointer (some ⟨w.heap.size, 0, none⟩), .int .u64 150] 214)) (by rw [World.cell?_alloc_lt _ _ ⟨w.heap.size, 0, none⟩ (by simp; omega)]; simp)
 have st := zI1 t ⟨w.heap.size + 1 + 1 + 1, 0, none⟩ b old ((((w.alloc (.cells #[.pointer (some t)] 174)).alloc (.cells #[hdl 174, .pointer (some ⟨w.heap.size, 0, none⟩), .int .u64 150] 214)).alloc (.cells #[hdl 174, .pointer (some ⟨w.heap.size, 0, none⟩), .int .u64 150] 214)).alloc (.cells #[.string b] 172))
  (by rw [World.cell?_alloc_at _ _ _ _ (by simp)]; rfl)
  (by rw [World.cell?_alloc_lt _ _ t (by simp; omega), World.cell?_alloc_lt _ _ t (by simp; omega), World.cell?_alloc_lt _ _ t (by simp; omega), World.cell?_alloc_lt _ _ t htl]; exact ht0)
  (by rw [World.frozen?_alloc_old _ _ t (by simp; omega), World.frozen?_alloc_old _ _ t (by simp; omega), World.frozen?_alloc_old _ _ t (by simp; omega), World.frozen?_alloc_old _ _ t (Nat.ne_of_lt htl)]; exact hf0)
 go_enter Tryz.func87, Tryz.ntmps87
 go_wp2
 refine wp_loop_rounds 1 ?_
 rw [rounds_succ]
 go_wp2
 go_ret
 exact ⟨rfl, rfl⟩
end Go.Abs

namespace Go.Abs
open Go Go.Proofs Tryz
attribute [local irreducible] q9 Hold y2
variable [Cur]
attribute [go_sem] y3 Nat.le_refl Nat.sub_zero Int.reduceGT Nat.reduceGT Int.reduceGE
@[go_sem ↓] theorem zS9 (a b : Int) (K : Cont) : zVI .xor .u64 a b K = K (uV (O0 a b)) [] [] := rfl
@[go_sem ↓] theorem zT7 (a b : Int) (K : Cont) : N8 .shl .u64 a b K = (0 ≤ b ∧ K (uV (zA1 a b.toNat)) [] []) := rfl
@[go_sem ↓] theorem zT9 (a b : Int) (K : Cont) : N8 .shr .u64 a b K = (0 ≤ b ∧ K (uV (V4 a b.toNat)) [] []) := rfl
@[go_sem] theorem zSb (s : Int) : O0 s (zA1 s 13) = zVw s := rfl
@[go_sem] theorem zSc (s : Int) : O0 s (V4 s 7) = zVx s := rfl
@[go_sem] theorem zSd (s : Int) : O0 s (zA1 s 17) = zVy s := rfl
@[go_sem] theorem zSe (s : Int) : zVy (zVx (zVw s)) = zAo s := rfl
@[go_sem] theorem zSf (n : Int) : IntKind.u64.wrap (O0 n (V4 n 30) * 10723151780598845931) = zVh n := rfl
theorem zP5 (d : Dice) (h : d.list.length ≤ 4294967296) : zUL prog 67 [.ptr 0 0] [y3 d] (uV (zVB d)) [y3 (zU7 d)] := by
 have e2 : (zU7 d).list = d.list := rfl
 have e4 : (zU7 d).seed = zVJ d := rfl
 have e6 : zVB d = O0 (zVh (zVJ d)) (V4 (zVh (zVJ d)) 31) := rfl
 by_cases q : d.at_ < d.list.length
 ·have q2 : ((d.at_ : Int) < (d.list.length : Int)) := by omega
  have e1 : zVJ d = IntKind.u64.wrap (zAo d.seed + IntKind.u64.wrap (IntKind.u64.wrap (d.list.getD d.at_ default) * 13787848793156543929)) := by unfold zVJ; rw [if_pos q]
  have e3 : (zU7 d).at_ = d.at_ + 1 := by unfold zU7; simp only; rw [if_pos q]
  have e5 : IntKind.i64.wrap ((d.at_ : Int) + 1) = ((d.at_ + 1 : Nat) : Int) := u6 (by omega)
  generalize zU7 d = d' at *
  refine z9 func67 rfl (fun E hE => ?_); simp only [go_sem, ntmps67]
  refine wk1 trivial ?_
  all_goals first | contradiction | omega | skip
  refine ⟨[_], [some 0], [], ⟨rfl, trivial⟩, ?_⟩
  simp only [go_sem, *]
 ·have q2 : ¬ ((d.at_ : Int) < (d.list.length : Int)) := by omega
  have e1 : zVJ d = zAo d.seed := by unfold zVJ; rw [if_neg q]
  have e3 : (zU7 d).at_ = d.at_ := by unfold zU7; simp only; rw [if_neg q]
  generalize zU7 d = d' at *
  refine z9 func67 rfl (fun E hE => ?_); simp only [go_sem, ntmps67]
  refine wk1 trivial ?_
  all_goals first | contradiction | omega | skip
  refine ⟨[_], [some 0], [], ⟨rfl, trivial⟩, ?_⟩
  simp only [go_sem, *]
theorem R1 (d : Dice) (n : Int) (h : d.list.length ≤ 4294967296) (hn : n ≤ 4294967296) : zUL prog 27 [.ptr 0 0, iV n] [y3 d] (iV (toN n d)) [y3 (toD n d)] := by
 by_cases q : n < 1
 ·have e1 : toN n d = 0 := by unfold toN; rw [if_pos q]
  have e2 : toD n d = d := by unfold toD; rw [if_pos q]
  refine z9 func27 rfl (fun E hE => ?_); simp only [go_sem, ntmps27]
  refine wk1 trivial ?_
  all_goals first | contradiction | omega | skip
  refine ⟨[_], [some 0], [], ⟨rfl, trivial⟩, ?_⟩
  simp only [go_sem, *]
 ·have e1 : toN n d = (V4 (zVB d) 16).tmod (n + 1) := by unfold toN; rw [if_neg q]
  have e2 : toD n d = zU7 d := by unfold toD; rw [if_neg q]
  have hr := zD3 n d
  rw [e1] at hr
  have e3 : IntKind.i64.wrap (n + 1) = n + 1 := wrap_i64 (by omega) (by omega)
  have e4 : IntKind.u64.wrap (n + 1) = n + 1 := by rw [IntKind.wrap_u64]; omega
  have e5 : IntKind.i64.wrap ((V4 (zVB d) 16).tmod (n + 1)) = (V4 (zVB d) 16).tmod (n + 1) := wrap_i64 (by omega) (by omega)
  have e6 : ¬ n + 1 = 0 := by omega
  have sr := zP5 d h
  generalize zVB d = r at *
  generalize zU7 d = d' at *
  clear hr
  refine z9 func27 rfl (fun E hE => ?_); simp only [go_sem, ntmps27]
  refine wk1 (own [0] (sr)) ?_
  all_goals first | contradiction | omega | skip
  refine ⟨[_], [some 0], [], ⟨rfl, trivial⟩, ?_⟩
  simp only [go_sem, *]
theorem zOp (d : Dice) (lo hi : Int) (h : d.list.length ≤ 4294967296) (hl : 0 ≤ lo ∧ lo ≤ hi) (hh : hi ≤ 4294967296) : zUL prog 20 [.ptr 0 0, iV lo, iV hi] [y3 d] (iV (X4 lo hi d)) [y3 (M8 lo hi d)] := by
 have st := R1 d (hi - lo) h (by omega)
 have hf := zBU hl.2 d
 have e1 : IntKind.i64.wrap (hi - lo) = hi - lo := wrap_i64 (by omega) (by omega)
 have e2 : IntKind.i64.wrap (lo + toN (hi - lo) d) = X4 lo hi d := by
  have : lo + toN (hi - lo) d = X4 lo hi d := rfl
  rw [this]; exact wrap_i64 (by omega) (by omega)
 have e3 : M8 lo hi d = toD (hi - lo) d := rfl
 rw [e3]
 generalize X4 lo hi d = r at *
 clear e3 hf hl
 refine z9 func20 rfl (fun E hE => ?_); simp only [go_sem, ntmps20]
 refine wk1 (own [0] (st)) ?_
 refine ⟨[_], [some 0], [], ⟨rfl, trivial⟩, ?_⟩
 simp only [go_sem, *]
theorem zBt (d : Dice) (k : Int) (h : d.list.length ≤ 4294967296) (hk : 0 ≤ k ∧ k ≤ 4294967296) : zUL prog 26 [.ptr 0 0, iV k] [y3 d] (bV (L1 k d)) [y3 (r8 k d)] := by
 have st := R1 d (k - 1) h (by omega)
 have e1 : IntKind.i64.wrap (k - 1) = k - 1 := wrap_i64 (by omega) (by omega)
 have e2 : L1 k d = (toN (k - 1) d == 0) := rfl
 have e3 : r8 k d = toD (k - 1) d := rfl
 rw [e3, e2]
 clear e2 e3 hk
 refine z9 func26 rfl (fun E hE => ?_); simp only [go_sem, ntmps26]
 refine wk1 (own [0] (st)) ?_
 refine ⟨[_], [some 0], [], ⟨rfl, trivial⟩, ?_⟩
 simp only [go_sem, *]
@[reducible] def E2 (l : List Int) : AV := .list (l.map iV)
def zGQ (l : List Int) : Dice := ⟨l, 0, 11400714819323198485⟩
theorem zO1 (l : List Int) : zUL prog 5 [E2 l] [] (.ptr 0 0) [y3 (zGQ l)] := by
 refine z9 func5 rfl (fun E hE => ?_); simp only [go_sem, ntmps5]
 refine wk1 trivial ?_
 refine ⟨[_], [some 0], [], ⟨rfl, trivial⟩, ?_⟩
 simp only [go_sem, zGQ, *]
 try rfl
end Go.Abs

namespace Go.Abs
open Go
theorem zBz : ∀ {k w : Str}, zUz k w = true ↔ k.Sublist w
 | [], w => by simp [zUz]
 | a :: x, [] => by simp [zUz]
 | a :: x, b :: y => by
  rw [zUz]
  by_cases e : a = b
  ·subst e
   rw [if_pos rfl, zBz]
   exact List.cons_sublist_cons.symm
  ·rw [if_neg e, zBz]
   constructor
   ·intro h; exact h.cons b
   ·intro h
    cases h with
    | cons _ h => exact h
    | cons_cons _ _ => exact absurd rfl e
end Go.Abs

namespace Go.Abs
open Go
end Go.Abs

namespace Go.Abs
open Go
theorem zEU (p : Nat → Bool) : ∀ n : Nat, ∃ set, set < 2 ^ n ∧ ∀ i, i < n → set.testBit i = p i
 | 0 => ⟨0, by simp, fun i h => by omega⟩
 | n + 1 => by
  obtain ⟨s, h1, h2⟩ := zEU p n
  cases hp : p n with
  | false =>
   refine ⟨s, by rw [Nat.pow_succ]; omega, fun i hi => ?_⟩
   by_cases e : i = n
   ·subst e; rw [hp]; exact Nat.testBit_lt_two_pow h1
   ·exact h2 i (by omega)
  | true =>
   refine ⟨2 ^ n + s, by rw [Nat.pow_succ]; omega, fun i hi => ?_⟩
   by_cases e : i = n
   ·subst e; rw [hp, Nat.testBit_two_pow_add_eq, Nat.testBit_lt_two_pow h1]; rfl
   ·rw [Nat.testBit_two_pow_add_gt (by omega)]; exact h2 i (by omega)
def Asc (n : Nat) (c : List Nat) : Prop := c.Pairwise (· < ·) ∧ ∀ i, i ∈ c → i < n
def G2 (l : List Str) (c : List Nat) : List Str := ((List.range l.length).filter fun i => !decide (i ∈ c)).map fun i => l.getD i []
theorem zI6 {n : Nat} {c d : List Nat} (hc : Asc n c) (hd : Asc n d) (h : ∀ i, i ∈ c ↔ i ∈ d) : c = d :=
 List.Perm.eq_of_pairwise (le := (· < ·)) (fun a b _ _ h1 h2 => by omega) hc.1 hd.1 ((List.perm_ext_iff_of_nodup (hc.1.imp (fun h => Nat.ne_of_lt h)) (hd.1.imp (fun h => Nat.ne_of_lt h))).2 h)
theorem zGa (n set : Nat) : Asc n (X7 n set) := ⟨(List.pairwise_lt_range).filter _, fun i hi => by simpa using (List.mem_filter.1 hi).1⟩
theorem mem_rightSets {l : List Str} {c : List Nat} : c ∈ Y7 l ↔ Asc l.length c ∧ Q0 (G2 l c) = true := by
 unfold Y7
 rw [List.mem_filterMap]
 have hrest : ∀ set, zAK l set = G2 l (X7 l.length set) := fun set => by
  unfold zAK G2 X7
  congr 1
  refine List.filter_congr (fun i hi => ?_)
  have hi' : i < l.length := by simpa using hi
  simp [hi']
 constructor
 ·rintro ⟨set, _, h⟩
  split at h
  ·rename_i ho
   cases h
   exact ⟨zGa _ _, by rw [← hrest]; exact ho⟩
  ·cases h
 ·rintro ⟨h1, h2⟩
  obtain ⟨set, hs, hb⟩ := zEU (fun i => decide (i ∈ c)) l.length
  have e : X7 l.length set = c := zI6 (zGa _ _) h1 (fun i => by
   unfold X7
   rw [List.mem_filter]
   constructor
   ·rintro ⟨h3, h4⟩
    rw [hb i (by simpa using h3)] at h4
    simpa using h4
   ·intro h3
    exact ⟨by simpa using h1.2 i h3, by rw [hb i (h1.2 i h3)]; simpa using h3⟩)
  refine ⟨set, by simpa using hs, ?_⟩
  rw [hrest, e, if_pos h2]
theorem zEg : ∀ x y : List Nat, t9 y x = -t9 x y
 | [], [] => rfl
 | [], _ :: _ => rfl
 | _ :: _, [] => rfl
 | a :: x, b :: y => by
  rw [t9, t9, zEf a b]
  by_cases h : zUU a b = 0
  ·rw [if_pos h, if_pos (by omega), zEg x y]
  ·rw [if_neg h, if_neg (by omega)]
theorem cmpN_zero {a b : Int} : zUU a b = 0 ↔ a = b := by
 unfold zUU
 repeat' split
 all_goals omega
theorem zFL : ∀ {x y z : List Nat}, ¬ t9 x y < 0 → ¬ t9 y z < 0 → ¬ t9 x z < 0
 | [], [], _, _, h => h
 | [], _ :: _, _, h, _ => absurd (by rw [t9]; decide) h
 | _ :: _, [], [], _, _ => by rw [t9]; decide
 | _ :: _, [], _ :: _, _, h => absurd (by rw [t9]; decide) h
 | _ :: _, _ :: _, [], _, _ => by rw [t9]; decide
 | a :: x, b :: y, c :: z, h1, h2 => by
  rw [t9] at *
  have rc := fun p q => zFL (x := x) (y := y) (z := z) p q
  by_cases e1 : zUU a b = 0
  ·rw [if_pos e1] at h1
   rw [cmpN_zero.1 e1]
   by_cases e2 : zUU b c = 0
   ·rw [if_pos e2] at h2 ⊢
    exact rc h1 h2
   ·rw [if_neg e2] at h2 ⊢
    exact h2
  ·rw [if_neg e1] at h1
   by_cases e2 : zUU b c = 0
   ·rw [if_pos e2] at h2
    rw [← cmpN_zero.1 e2, if_neg e1]; exact h1
   ·rw [if_neg e2] at h2
    have : ¬ zUU a c = 0 ∧ ¬ zUU a c < 0 := by
     unfold zUU at *
     repeat' split at h1
     all_goals repeat' split at h2
     all_goals repeat' split
     all_goals omega
    rw [if_neg this.1]; exact this.2
theorem zG8 {a b : List Nat} : v9 a b < 0 ↔ a.length < b.length ∨ (a.length = b.length ∧ t9 a b < 0) := by
 unfold v9 orI
 by_cases h : zUU a.length b.length = 0
 ·rw [if_pos h]
  have := cmpN_zero.1 h
  constructor
  ·intro k; exact .inr ⟨by omega, k⟩
  ·rintro (k | k)
   ·omega
   ·exact k.2
 ·rw [if_neg h]
  have hne : ¬ (a.length : Int) = b.length := fun e => h (cmpN_zero.2 e)
  constructor
  ·intro k
   unfold zUU at k
   repeat' split at k
   all_goals omega
  ·rintro (k | k)
   ·unfold zUU; rw [if_pos (by omega)]; decide
   ·omega
theorem zFM {x y z : List Nat} (h1 : ¬ v9 x y < 0) (h2 : ¬ v9 y z < 0) : ¬ v9 x z < 0 := by
 rw [zG8, not_or, not_and] at *
 exact ⟨by omega, fun e => zFL (h1.2 (by omega)) (h2.2 (by omega))⟩
theorem zES (x y : List Nat) (h : v9 x y < 0) : ¬ v9 y x < 0 := by
 rw [zG8] at *
 rw [not_or, not_and]
 rcases h with h | h
 ·exact ⟨by omega, fun e => by omega⟩
 ·have := zEg x y
  exact ⟨by omega, fun _ => by omega⟩
def zCA (l : List Str) (c : List Nat) : Prop := Asc l.length c ∧ Q0 (G2 l c) = true
theorem zIC (l : List Str) : W2 v9 (zCA l) (P9 l) := by
 have hne : Y7 l ≠ [] := by
  have hall : zCA l (List.range l.length) := ⟨⟨List.pairwise_lt_range, fun i hi => by simpa using hi⟩, by
   have : G2 l (List.range l.length) = [] := by
    unfold G2
    rw [List.filter_eq_nil_iff.2 (fun i hi => by simpa using hi)]; rfl
   rw [this]; rfl⟩
  intro e
  have := mem_rightSets.2 hall
  rw [e] at this; cases this
 obtain ⟨b, h1, h2, h3⟩ := B7 (cmp := v9) (fun _ _ _ => zFM) zES hne
 unfold P9
 rw [h1]
 exact ⟨mem_rightSets.1 h2, fun x hx => h3 x (mem_rightSets.2 hx)⟩
end Go.Abs

namespace Go.Abs
open Go
def O9 (r : Int) : Int := if 97 ≤ r ∧ r ≤ 122 then 1 else if 65 ≤ r ∧ r ≤ 90 ∧ ¬ (r = 72 ∨ r = 81 ∨ r = 87) then 2 else 0
theorem zMO : ((List.range 256).all fun n => decide (O9 n = t6 (UInt8.ofNat n))) = true := by kernel_rfl
theorem zC3 (c : UInt8) : O9 (c.toNat : Int) = t6 c := by
 have := List.all_eq_true.1 zMO c.toNat (List.mem_range.2 c.toNat_lt)
 rw [decide_eq_true_eq, UInt8.ofNat_toNat] at this
 exact this
theorem zFu {r : Int} (h : 128 ≤ r) : O9 r = 0 := by
 unfold O9
 rw [if_neg (by omega), if_neg (by omega)]
theorem zFt {c : UInt8} (h : 128 ≤ c.toNat) : t6 c = 0 := by rw [← zC3, zFu (by omega)]
theorem zMM {c : UInt8} (h : t6 c ≠ 0) : c.toNat < 128 := by
 apply Decidable.of_not_not
 intro hn
 exact h (zFt (by omega))
theorem zMR : ((List.range 256).all fun n => (x5 (UInt8.ofNat n) == decide (t6 (UInt8.ofNat n) = 1)) && (R0 (UInt8.ofNat n) == decide (t6 (UInt8.ofNat n) = 2))) = true := by kernel_rfl
theorem zFw (c : UInt8) : x5 c = decide (t6 c = 1) ∧ R0 c = decide (t6 c = 2) := by
 have := List.all_eq_true.1 zMR c.toNat (List.mem_range.2 c.toNat_lt)
 rw [UInt8.ofNat_toNat, Bool.and_eq_true, beq_iff_eq, beq_iff_eq] at this
 exact this
theorem latin_kind {c : UInt8} : x5 c = true ↔ t6 c = 1 := by rw [(zFw c).1, decide_eq_true_eq]
theorem other_kind {c : UInt8} : R0 c = true ↔ t6 c = 2 := by rw [(zFw c).2, decide_eq_true_eq]
def FormTo (s : Str) (i : Nat) (k : Int) : Prop := (i = 0 ∧ k = 0) ∨ (0 < i ∧ k ≠ 0 ∧ ∀ j, j < i → t6 (s.getD j 0) = k)
theorem zMN (c : UInt8) : t6 c = 0 ∨ t6 c = 1 ∨ t6 c = 2 := by
 unfold t6
 repeat' split
 all_goals simp
theorem FormTo.end {s : Str} {i : Nat} {k : Int} (h : FormTo s i k) (hi : i = s.length) (h0 : 0 < s.length) : X3 s = true := by
 rcases h with h | ⟨_, hk, h⟩
 ·omega
 ·unfold X3
  rw [Bool.or_eq_true, List.all_eq_true, List.all_eq_true]
  have hm : ∀ c, c ∈ s → t6 c = k := fun c hc => by
   obtain ⟨j, hj, rfl⟩ := List.getElem_of_mem hc
   have := h j (by omega)
   simpa [List.getD, hj] using this
  have hr : k = 1 ∨ k = 2 := by
   cases s with
   | nil => simp at h0
   | cons c r =>
    have h1 := hm c (by simp)
    rcases zMN c with h2 | h2 | h2 <;> omega
  rcases hr with rfl | rfl
  ·exact .inl (fun c hc => latin_kind.2 (hm c hc))
  ·exact .inr (fun c hc => other_kind.2 (hm c hc))
theorem FormTo.next {s : Str} {i : Nat} {k : Int} (h : FormTo s i k) (hk : t6 (s.getD i 0) ≠ 0) (he : k = 0 ∨ t6 (s.getD i 0) = k) : FormTo s (i + 1) (t6 (s.getD i 0)) := by
 refine .inr ⟨by omega, hk, fun j hj => ?_⟩
 by_cases e : j = i
 ·rw [e]
 ·rcases h with ⟨rfl, rfl⟩ | ⟨h0, h1, h⟩
  ·omega
  ·rw [h j (by omega)]
   rcases he with he | he
   ·exact absurd he h1
   ·exact he.symm
theorem FormTo.bad {s : Str} {i : Nat} {k : Int} (h : FormTo s i k) (hi : i < s.length) (hb : t6 (s.getD i 0) = 0 ∨ (k ≠ 0 ∧ t6 (s.getD i 0) ≠ k)) : X3 s = false := by
 have hm : s.getD i 0 ∈ s := by simp [List.getD, hi]
 cases hf : X3 s with
 | false => rfl
 | true =>
  exfalso
  unfold X3 at hf
  rw [Bool.or_eq_true, List.all_eq_true, List.all_eq_true] at hf
  have hall : ∃ q, q ≠ 0 ∧ ∀ c, c ∈ s → t6 c = q := by
   rcases hf with hf | hf
   ·exact ⟨1, by decide, fun c hc => latin_kind.1 (hf c hc)⟩
   ·exact ⟨2, by decide, fun c hc => other_kind.1 (hf c hc)⟩
  obtain ⟨q, hq, hall⟩ := hall
  have h1 := hall _ hm
  rcases hb with hb | ⟨hb1, hb2⟩
  ·exact hq (h1.symm.trans hb)
  ·rcases h with ⟨_, h⟩ | ⟨h0, _, h⟩
   ·exact hb1 h
   ·have h2 := h 0 h0
    have h3 : s.getD 0 0 ∈ s := by
     have : 0 < s.length := by omega
     simp [List.getD, this]
    have := hall _ h3
    exact hb2 (by omega)
end Go.Abs

namespace Go.Abs
open Go Go.Proofs Tryz
attribute [local irreducible] q9 Hold y2
variable [Cur]
theorem zPo (n : Int) : zUL prog 100 [iV n] [] (bV false) [] := by
 refine z9 func100 rfl (fun E hE => ?_); simp only [go_sem, ntmps100]
 refine wk1 trivial ?_
 all_goals (refine ⟨[_], [], [], ⟨rfl, trivial⟩, ?_⟩; simp only [go_sem, *])
 all_goals simp_all
theorem zDi (a b : Int) : zUL prog 76 [iV a, iV b] [] (iV (zUU a b)) [] := by
 refine z9 func76 rfl (fun E hE => ?_); simp only [go_sem, ntmps76]
 repeat' (first | (refine Qr rfl ?_; try intro _ hK; try simp only [go_sem, *]) | refine Qh rfl ?_ | (refine Qc rfl rfl ?_ ?_ <;> (intro hb; have hc := hb; try simp only [go_sem] at hc)) | refine z8 rfl ?_ | (refine y6 (zPo _) ?_; simp only [go_sem, *]) | ((with_reducible apply And.intro); focus omega) | (refine z7 hK ?_; clear hK; simp only [go_sem, *]) | simp only [z6, z5, go_sem, *])
 all_goals (refine ⟨[_], [], [], ⟨rfl, trivial⟩, ?_⟩; simp only [go_sem, *])
 all_goals (refine I4 ?_; unfold zUU; repeat' split)
 all_goals omega
def orL : List Int → Int
 | [] => 0
 | x :: r => if x = 0 then orL r else x
theorem zDk (l : List Int) (hl : l.length ≤ 4294967296) : zUL prog 74 [.list (l.map iV)] [] (iV (orL l)) [] := by
 refine z9 func74 rfl (fun E hE => ?_); simp only [go_sem, ntmps74]
 refine wk1 trivial ?_
 refine x8 rfl (l.length) (fun i => orL (l.drop i) = orL l) 18 (fun i => [(8, iV i), (7, iV l.length), (6, .list (l.map iV)), (3, iV 0)]) (fun i => []) [] [] (by simp) ?_; intro i hi hP
 repeat' (first | (refine Qr rfl ?_; try intro _ hK; try simp only [go_sem, *]) | refine Qh rfl ?_ | (refine Qc rfl rfl ?_ ?_ <;> (intro hb; have hc := hb; try simp only [go_sem] at hc)) | refine z8 rfl ?_ | ((with_reducible apply And.intro); focus omega) | (refine z7 hK ?_; clear hK; simp only [go_sem, *]) | simp only [z6, z5, go_sem, *])
 ·(refine ⟨[_], [], [], ⟨rfl, trivial⟩, ?_⟩; simp only [go_sem, *])
  rw [← hP, o5 ‹_›, orL, if_neg ‹_›]
 ·exact y8 (i' := i + 1) [] [] (by rw [← hP, o5 (i := i) ‹_›, orL, if_pos ‹_›])
 ·(refine ⟨[_], [], [], ⟨rfl, trivial⟩, ?_⟩; simp only [go_sem, *])
  rw [← hP, Z5 (by omega), orL]
theorem zDL (a b : Int) : orL [a, b] = orI a b := by
 simp only [orL, orI]; repeat' split
 all_goals omega
theorem zPp (s : Str) : zUL prog 99 [sV s] [] (bV false) [] := by
 refine z9 func99 rfl (fun E hE => ?_); simp only [go_sem, ntmps99]
 refine wk1 trivial ?_
 all_goals (refine ⟨[_], [], [], ⟨rfl, trivial⟩, ?_⟩; simp only [go_sem, *])
 all_goals simp_all
theorem zPq (s : Str) : zUL prog 233 [sV s] [] (bV false) [] := by
 refine z9 func233 rfl (fun E hE => ?_); simp only [go_sem, ntmps233]
 refine wk1 trivial ?_
 all_goals (refine ⟨[_], [], [], ⟨rfl, trivial⟩, ?_⟩; simp only [go_sem, *])
 all_goals simp_all
theorem zHC (a b : Str) : zUL prog 75 [sV a, sV b] [] (iV (zUR a b)) [] := by
 refine z9 func75 rfl (fun E hE => ?_); simp only [go_sem, ntmps75]
 repeat' (first | (refine Qr rfl ?_; try intro _ hK; try simp only [go_sem, *]) | refine Qh rfl ?_ | (refine Qc rfl rfl ?_ ?_ <;> (intro hb; have hc := hb; try simp only [go_sem] at hc)) | refine z8 rfl ?_ | (refine y6 (zPp _) ?_; simp only [go_sem, *]) | ((with_reducible apply And.intro); focus omega) | (refine z7 hK ?_; clear hK; simp only [go_sem, *]) | simp only [z6, z5, go_sem, *])
 all_goals (refine ⟨[_], [], [], ⟨rfl, trivial⟩, ?_⟩; simp only [go_sem, *])
 all_goals (refine I4 ?_; unfold zUR v7; simp_all)
 all_goals (apply Decidable.of_not_not; intro h; exact absurd (zAO (by assumption) (by simpa using h)) (by assumption))
theorem zOc (a b : Str) : zUL prog 216 [sV a, sV b] [] (iV (zUR a b)) [] := by
 refine z9 func216 rfl (fun E hE => ?_); simp only [go_sem, ntmps216]
 repeat' (first | (refine Qr rfl ?_; try intro _ hK; try simp only [go_sem, *]) | refine Qh rfl ?_ | (refine Qc rfl rfl ?_ ?_ <;> (intro hb; have hc := hb; try simp only [go_sem] at hc)) | refine z8 rfl ?_ | (refine y6 (zPq _) ?_; simp only [go_sem, *]) | ((with_reducible apply And.intro); focus omega) | (refine z7 hK ?_; clear hK; simp only [go_sem, *]) | simp only [z6, z5, go_sem, *])
 all_goals (refine ⟨[_], [], [], ⟨rfl, trivial⟩, ?_⟩; simp only [go_sem, *])
 all_goals (refine I4 ?_; unfold zUR v7; simp_all)
 all_goals (apply Decidable.of_not_not; intro h; exact absurd (zAO (by assumption) (by simpa using h)) (by assumption))
end Go.Abs

namespace Go.Abs
open Go Go.Proofs Tryz
attribute [local irreducible] q9 Hold y2
variable [Cur]
def hqw (r : Int) : Bool := decide (0 ≤ Lib.indexByte [72, 81, 87] r.toNat.toUInt8)
theorem zL2 : ((List.range 128).all fun n => hqw n == (n == 72 || n == 81 || n == 87)) = true := by kernel_rfl
theorem zL3 {r : Int} (h0 : 0 ≤ r) (h1 : r < 128) : hqw r = decide (r = 72 ∨ r = 81 ∨ r = 87) := by
 obtain ⟨n, rfl⟩ := Int.eq_ofNat_of_zero_le h0
 have := List.all_eq_true.1 zL2 n (List.mem_range.2 (by omega))
 rw [beq_iff_eq] at this
 rw [this, Bool.eq_iff_iff]
 simp
 omega
theorem zKR (s : ByteArray) (c : Int) (h0 : 0 ≤ c) (h1 : c < 256) : zBD prog 208 [.string s, .int .u8 c] (.int .i64 (Lib.indexByte s.data.toList c.toNat.toUInt8)) :=
  zKQ (e := Extern.BytealgIndexByte.indexByte) func208 (by kernel_rfl) (by kernel_rfl) (by kernel_rfl) (by kernel_rfl) rfl (fun w => Lib.run_indexByteString s c w) fun w es => by
    show Sem.events _ (Extern.BytealgIndexByte.indexByte #[.string s, .int .u8 c]) w es = es
    show Sem.events _ (do
        let b ← Extern.Bytes.bytesOf (.string s)
        let c ← Extern.Bytes.asByte (.int .u8 c)
        match (List.range b.size).find? fun i => b[i]! == c with
        | some i => pure (goInt i)
        | none => pure (goInt (-1))) w es = es
    simp only [Extern.Bytes.bytesOf, Extern.Bytes.asByte]
    simp only [Sem.events_bind, Sem.run_pure, Sem.events_pure, Result.evThen_ok]
    split <;> rfl
theorem zPk (c : Int) (h0 : 0 ≤ c) (h1 : c < 256) : zUL prog 180 [sV [72, 81, 87], .raw (.int .u8 c)] [] (iV (Lib.indexByte [72, 81, 87] c.toNat.toUInt8)) [] := by
 have hx := zKR ⟨[72, 81, 87].toArray⟩ c h0 h1
 simp only at hx
 generalize Lib.indexByte [72, 81, 87] c.toNat.toUInt8 = q at *
 refine z9 func180 rfl (fun E hE => ?_); simp only [go_sem, ntmps180]
 refine Qh rfl ?_
 refine P5 rfl ?_
 simp only [go_sem]
 (refine zU0 rfl ?_; simp only [go_sem, *])
 refine O1 ?_
 repeat' (first | ((refine P5 rfl ?_)) | (refine Qr rfl ?_; try intro _ hK; try simp only [go_sem, *]) | refine Qh rfl ?_ | (refine Qc rfl rfl ?_ ?_ <;> (intro hb; have hc := hb; try simp only [go_sem] at hc)) | refine z8 rfl ?_ | ((with_reducible apply And.intro); focus omega) | (refine z7 hK ?_; clear hK; simp only [go_sem, *]) | simp only [z6, z5, go_sem, *])
 iterate 2 (refine zU0 rfl ?_; simp only [go_sem, *])
 refine zRx rfl rfl rfl rfl hx ?_ ?_
 (focus (intro d h; cases h; simp only [go_sem, *]; try omega))
 simp only [go_sem, *]
 (refine zU0 rfl ?_; simp only [go_sem, *])
 refine O1 ?_
 refine wk1 trivial ?_
 all_goals (refine ⟨[_], [], [], ⟨rfl, trivial⟩, ?_⟩; simp only [go_sem, *])
theorem zPj (c : Int) (h0 : 0 ≤ c) (h1 : c < 256) : zUL prog 153 [sV [72, 81, 87], .raw (.int .u8 c)] [] (iV (Lib.indexByte [72, 81, 87] c.toNat.toUInt8)) [] := by
 have s2 := zPk c h0 h1
 generalize Lib.indexByte [72, 81, 87] c.toNat.toUInt8 = q at *
 refine z9 func153 rfl (fun E hE => ?_); simp only [go_sem, ntmps153]
 refine wk1 s2 ?_
 all_goals (refine ⟨[_], [], [], ⟨rfl, trivial⟩, ?_⟩; simp only [go_sem, *])
theorem zPl (r : Int) (h0 : 0 ≤ r) (h1 : r < 128) : zUL prog 125 [sV [72, 81, 87], .raw (.int .i32 r)] [] (iV (Lib.indexByte [72, 81, 87] r.toNat.toUInt8)) [] := by
 have hw : IntKind.u8.wrap r = r := by rw [IntKind.wrap_u8]; omega
 have s2 := zPj r h0 (by omega)
 generalize Lib.indexByte [72, 81, 87] r.toNat.toUInt8 = q at *
 refine z9 func125 rfl (fun E hE => ?_); simp only [go_sem, ntmps125]
 refine wk1 s2 ?_
 all_goals first | omega | (refine ⟨[_], [], [], ⟨rfl, trivial⟩, ?_⟩; simp only [go_sem, *])
theorem zPi (r : Int) (h0 : 0 ≤ r) (h1 : r < 128) : zUL prog 98 [sV [72, 81, 87], .raw (.int .i32 r)] [] (bV (hqw r)) [] := by
 have s2 := zPl r h0 h1
 have he : hqw r = decide (0 ≤ Lib.indexByte [72, 81, 87] r.toNat.toUInt8) := rfl
 generalize Lib.indexByte [72, 81, 87] r.toNat.toUInt8 = q at *
 refine z9 func98 rfl (fun E hE => ?_); simp only [go_sem, ntmps98]
 refine wk1 s2 ?_
 all_goals (refine ⟨[_], [], [], ⟨rfl, trivial⟩, ?_⟩; simp only [go_sem, *])
theorem zDm (r : Int) : zUL prog 73 [.raw (.int .i32 r)] [] (iV (O9 r)) [] := by
 by_cases q : 65 ≤ r ∧ r ≤ 90
 ·have sh := zPi r (by omega) (by omega)
  have e := zL3 (r := r) (by omega) (by omega)
  generalize hqw r = b at *
  have e0 : b = decide (r = 72 ∨ r = 81 ∨ r = 87) := e
  clear e
  refine z9 func73 rfl (fun E hE => ?_); simp only [go_sem, ntmps73]
  repeat' (first | (refine Qr rfl ?_; try intro _ hK; try simp only [go_sem, *]) | (refine Qi rfl rfl rfl rfl ?_ ?_ <;> (intro hb; (try intro _ hK); have hc := hb; try simp only [go_sem] at hc; simp only [go_sem, *])) | refine Qh rfl ?_ | (refine Qc rfl rfl ?_ ?_ <;> (intro hb; have hc := hb; try simp only [go_sem] at hc)) | refine z8 rfl ?_ | (refine y6 (sh) ?_; simp only [go_sem, *]) | ((with_reducible apply And.intro); focus omega) | (refine z7 hK ?_; clear hK; simp only [go_sem, *]) | simp only [z6, z5, go_sem, *])
  all_goals (refine ⟨[_], [], [], ⟨rfl, trivial⟩, ?_⟩; simp only [go_sem, *])
  all_goals (refine I4 ?_; unfold O9; simp_all)
  all_goals omega
 ·refine z9 func73 rfl (fun E hE => ?_); simp only [go_sem, ntmps73]
  repeat' (first | (refine Qr rfl ?_; try intro _ hK; try simp only [go_sem, *]) | (refine Qi rfl rfl rfl rfl ?_ ?_ <;> (intro hb; (try intro _ hK); have hc := hb; try simp only [go_sem] at hc; simp only [go_sem, *])) | refine Qh rfl ?_ | (refine Qc rfl rfl ?_ ?_ <;> (intro hb; have hc := hb; try simp only [go_sem] at hc)) | refine z8 rfl ?_ | ((with_reducible apply And.intro); focus omega) | (refine z7 hK ?_; clear hK; simp only [go_sem, *]) | simp only [z6, z5, go_sem, *])
  all_goals try omega
  all_goals (refine ⟨[_], [], [], ⟨rfl, trivial⟩, ?_⟩; simp only [go_sem, *])
  all_goals (refine I4 ?_; unfold O9; simp_all)
  all_goals omega
end Go.Abs

namespace Go.Abs
open Go Go.Proofs Tryz
attribute [local irreducible] q9 Hold y2
variable [Cur]
theorem zMi : ((List.range 128).all fun n => n == 67 || n == 74 || n == 88 || n == 89 || decide (zVW (UInt8.ofNat n) = l7 (UInt8.ofNat n))) = true := by kernel_rfl
theorem zMj {c : UInt8} (h : c.toNat < 128) (h1 : ¬ c.toNat = 67) (h2 : ¬ c.toNat = 74) (h3 : ¬ c.toNat = 88) (h4 : ¬ c.toNat = 89) : zVW c = l7 c := by
 have := List.all_eq_true.1 zMi c.toNat (List.mem_range.2 h)
 simpa [h1, h2, h3, h4] using this
theorem zPs (c : UInt8) (h : c.toNat < 128) : zUL prog 101 [sV [c]] [] (sV (zVW c)) [] := by
 unfold zVW
 split
 ·exact zPu c (by assumption)
 ·exact zPt c h (by assumption)
theorem zOU : l7 67 = [99, 104] := by decide
theorem zOV : l7 74 = [106, 117] := by decide
theorem zOW : l7 88 = [115, 104] := by decide
theorem zOX : l7 89 = [106, 97] := by decide
theorem zQF (c : UInt8) (h : c.toNat < 128) : zUL prog 78 [.raw (.int .i32 (c.toNat : Int))] [] (sV (l7 c)) [] := by
 have sl := zPs c h
 have ee := zEr (n := (c.toNat : Int)) (by omega) (by omega)
 rw [Int.toNat_natCast, UInt8.ofNat_toNat] at ee
 have hl := zMj h
 have k1 : c.toNat = 67 → l7 c = [99, 104] := fun e => by rw [UInt8.toNat_inj.1 (show c.toNat = (67 : UInt8).toNat from e), zOU]
 have k2 : c.toNat = 74 → l7 c = [106, 117] := fun e => by rw [UInt8.toNat_inj.1 (show c.toNat = (74 : UInt8).toNat from e), zOV]
 have k3 : c.toNat = 88 → l7 c = [115, 104] := fun e => by rw [UInt8.toNat_inj.1 (show c.toNat = (88 : UInt8).toNat from e), zOW]
 have k4 : c.toNat = 89 → l7 c = [106, 97] := fun e => by rw [UInt8.toNat_inj.1 (show c.toNat = (89 : UInt8).toNat from e), zOX]
 generalize c.toNat = n at *
 generalize l7 c = sb at *
 have fin : n < 128 → ¬ n = 67 → ¬ n = 74 → ¬ n = 88 → ¬ n = 89 → zVW c = sb := fun _ => hl
 clear hl
 generalize zVW c = lb at *
 generalize he : Utf8.encode (n : Int) = eb at *
 obtain ⟨ev, hev⟩ : ∃ v, v = Value.string eb := ⟨_, rfl⟩
 have sl2 : zUL prog 101 [.raw (.string eb)] [] (sV lb) [] := by rw [ee]; exact sl
 clear ee sl hev ev
 refine z9 func78 rfl (fun E hE => ?_); simp only [go_sem, ntmps78]
 repeat' (first | (refine Qr rfl ?_; try intro _ hK; try simp only [go_sem, *]) | refine Qh rfl ?_ | (refine Qc rfl rfl ?_ ?_ <;> (intro hb; have hc := hb; try simp only [go_sem] at hc)) | refine z8 rfl ?_ | (refine y6 (sl2) ?_; simp only [go_sem, *]) | ((with_reducible apply And.intro); focus omega) | (refine z7 hK ?_; clear hK; simp only [go_sem, *]) | simp only [z6, z5, go_sem, *])
 all_goals (refine ⟨[_], [], [], ⟨rfl, trivial⟩, ?_⟩; simp only [go_sem, *])
 ·rw [k1 (by omega)]
 ·rw [k2 (by omega)]
 ·rw [k4 (by omega)]
 ·rw [k3 (by omega)]
 ·rw [fin (by omega) (by omega) (by omega) (by omega) (by omega)]
end Go.Abs

namespace Go.Abs
open Go Go.Proofs Tryz
attribute [local irreducible] q9 Hold y2
variable [Cur]
theorem zGz (s : Str) {i : Nat} (h : i < s.length) : O9 ((Utf8.decode ⟨s.toArray⟩ i).1 : Int) = t6 (s.getD i 0) ∧ (t6 (s.getD i 0) ≠ 0 → (Utf8.decode ⟨s.toArray⟩ i).2 = 1) := by
 by_cases q : (s.getD i 0).toNat < 128
 ·rw [zBM h q]
  exact ⟨zC3 _, fun _ => rfl⟩
 ·have := zEl h (by omega)
  rw [zFt (by omega), zFu (by omega)]
  exact ⟨rfl, fun h => absurd rfl h⟩
def NoQ (_ : Nat) : Prop := True
theorem zDg (s : Str) : zUL prog 36 [sV s] [] (iV (v5 s)) [] := by
 have e0 : s.length = 0 → v5 s = 7 := fun h => by unfold v5; rw [if_pos h]
 have e1 : 6 < s.length → v5 s = 10 := fun h => by unfold v5; rw [if_neg (by omega), if_pos h]
 have e2 : 0 < s.length → s.length ≤ 6 → v5 s = if X3 s = true then 0 else 2 := fun h h' => by unfold v5; rw [if_neg (by omega), if_neg (by omega)]
 refine z9 func36 rfl (fun E hE => ?_); simp only [go_sem, ntmps36]
 repeat' (first | (refine Qr rfl ?_; try intro _ hK; try simp only [go_sem, *]) | (refine Qi rfl rfl rfl rfl ?_ ?_ <;> (intro hb; (try intro _ hK); have hc := hb; try simp only [go_sem] at hc; simp only [go_sem, *])) | refine Qh rfl ?_ | (refine Qc rfl rfl ?_ ?_ <;> (intro hb; have hc := hb; try simp only [go_sem] at hc)) | refine z8 rfl ?_ | ((with_reducible apply And.intro); focus omega) | (refine z7 hK ?_; clear hK; simp only [go_sem, *]) | simp only [z6, z5, go_sem, *])
 ·(refine ⟨[_], [], [], ⟨rfl, trivial⟩, ?_⟩; simp only [go_sem, *])
  rw [e0 (by omega)]
 ·(refine ⟨[_], [], [], ⟨rfl, trivial⟩, ?_⟩; simp only [go_sem, *])
  rw [e1 (by omega)]
 ·have e3 := e2 (by omega) (by omega)
  have h0 : 0 < s.length := by omega
  have h6 : s.length ≤ 6 := by omega
  clear e0 e1 e2
  refine Q8 rfl (s.length) (fun i (k : Int) => FormTo s i k) 30 (fun i k => [(14, .ptr 0 0), (3, iV k)]) (fun i k => [.siter ⟨s.toArray⟩ i]) [some 0] [] (0) (by exact .inl ⟨rfl, rfl⟩) ?_; intro i k hi hP
  by_cases hi2 : i < s.length
  ·obtain ⟨r1, r2⟩ := zGz s hi2
   have hbad := hP.bad hi2
   have hnext := hP.next
   have sk := zDm ((Utf8.decode ⟨s.toArray⟩ i).1 : Int)
   rw [r1] at sk
   generalize hde : Utf8.decode ⟨s.toArray⟩ i = d at *
   obtain ⟨d1, d2⟩ := d
   simp only at r2 sk
   clear r1 hP
   generalize t6 (s.getD i 0) = kb at *
   repeat' (first | (refine Qr rfl ?_; try intro _ hK; try simp only [go_sem, *]) | (refine Qi rfl rfl rfl rfl ?_ ?_ <;> (intro hb; (try intro _ hK); have hc := hb; try simp only [go_sem] at hc; simp only [go_sem, *])) | refine Qh rfl ?_ | (refine Qc rfl rfl ?_ ?_ <;> (intro hb; have hc := hb; try simp only [go_sem] at hc)) | refine z8 rfl ?_ | (refine y6 (sk) ?_; simp only [go_sem, *]) | ((with_reducible apply And.intro); focus omega) | (refine z7 hK ?_; clear hK; simp only [go_sem, *]) | simp only [z6, z5, go_sem, *])
   all_goals first | (exact r7 (i' := i + 1) [some 0] [] (kb) (by exact hnext (by assumption) (by first | (left; assumption) | (right; omega)))) | (focus ((refine ⟨[_], [], [], ⟨rfl, trivial⟩, ?_⟩; simp only [go_sem, *]); done))
  ·have hf := hP.end (by omega) h0
   rw [if_pos hf] at e3
   clear hP
   refine wk1 trivial ?_
   (refine ⟨[_], [], [], ⟨rfl, trivial⟩, ?_⟩; simp only [go_sem, *])
theorem zMI {s : Str} {i : Nat} (h : i < s.length) : zUN (s.take (i + 1)) = zUN (s.take i) ++ l7 (s.getD i 0) := by
 rw [List.take_succ_eq_append_getElem h, zUN, List.flatMap_append]
 simp [zUN, List.getD, h]
@[go_sem] theorem zTA : zUN [] = [] := rfl
theorem zMH (s : Str) (i : Nat) : (zUN (s.take i)).length ≤ 2 * s.length := by
 have h1 := (zC1 (s.take i)).2
 simp at h1
 omega
theorem zMu {s : Str} (v : X3 s = true) {i : Nat} (h : i < s.length) : (s.getD i 0).toNat < 128 := by
 apply zMM
 have hm : s.getD i 0 ∈ s := by simp [List.getD, h]
 unfold X3 at v
 rw [Bool.or_eq_true, List.all_eq_true, List.all_eq_true] at v
 rcases v with v | v
 ·rw [latin_kind.1 (v _ hm)]; decide
 ·rw [other_kind.1 (v _ hm)]; decide
theorem H6 (s : Str) (v : X3 s = true) (hl : s.length ≤ 1000) : zUL prog 37 [sV s] [] (sV (zUN s)) [] := by
 refine z9 func37 rfl (fun E hE => ?_); simp only [go_sem, ntmps37]
 refine wk1 trivial ?_
 refine x8 rfl (s.length) (fun i => NoQ i) 16 (fun i => [(7, .ptr 0 0), (3, sV (zUN (s.take i)))]) (fun i => [.siter ⟨s.toArray⟩ i]) [some 0] [] (by trivial) ?_; intro i hi hP
 have hk2 := zMH s i
 by_cases hi2 : i < s.length
 ·have ha := zMu v hi2
  have hd := zBM hi2 ha
  have ss := zQF _ ha
  have hs2 := (zHB (s.getD i 0)).2
  have hkt := zMI hi2
  generalize l7 (s.getD i 0) = sb at *
  generalize zUN (s.take i) = kt at *
  refine wk1 ss ?_
  exact y8 (i' := i + 1) [some 0] [] (by trivial)
 ·have e : s.take i = s := List.take_of_length_le (by omega)
  rw [e]
  clear hk2
  refine wk1 trivial ?_
  (refine ⟨[_], [], [], ⟨rfl, trivial⟩, ?_⟩; simp only [go_sem, *])
theorem zOy (s : Str) : zUL prog 10 [sV s] [] (.tup [sV (if v5 s = 0 then zUN s else []), iV (v5 s)]) [] := by
 have sc := zDg s
 by_cases q : v5 s = 0
 ·have v := checkN_zero.1 q
  have so := H6 s v.form (by have := v.len; omega)
  rw [if_pos q]
  rw [q] at sc ⊢
  refine z9 func10 rfl (fun E hE => ?_); simp only [go_sem, ntmps10]
  refine wk1 (cc sc so) ?_
  (refine ⟨[_, _], [], [], ⟨rfl, rfl, trivial⟩, ?_⟩; simp only [go_sem, *])
 ·rw [if_neg q]
  generalize v5 s = e at *
  refine z9 func10 rfl (fun E hE => ?_); simp only [go_sem, ntmps10]
  refine wk1 sc ?_
  (refine ⟨[_, _], [], [], ⟨rfl, rfl, trivial⟩, ?_⟩; simp only [go_sem, *])
end Go.Abs

namespace Go.Abs
open Go Go.Proofs Tryz
attribute [local irreducible] q9 Hold y2
variable [Cur]
abbrev fnV (f : FuncId) : AV := .raw (.func (.func f) #[] #[])
abbrev y4 (l : List Str) : AV := .list (l.map sV)
theorem zMv {l : List Str} {i : Nat} (h : i < l.length) : o7 (l.drop i) = if v5 (l.getD i default) = 0 then o7 (l.drop (i + 1)) else v5 (l.getD i default) := by
 rw [o5 h, o7]
theorem zDl (l : List Str) (hl : l.length ≤ 4294967296) : zUL prog 71 [y4 l] [] (iV (o7 l)) [] := by
 refine z9 func71 rfl (fun E hE => ?_); simp only [go_sem, ntmps71]
 refine wk1 trivial ?_
 refine x8 rfl (l.length) (fun i => o7 (l.drop i) = o7 l) 18 (fun i => [(8, iV i), (7, iV l.length), (6, y4 l)]) (fun i => []) [] [] (by simp) ?_; intro i hi hP
 by_cases hi2 : i < l.length
 ·have hs := zMv hi2
  have sc := zDg (l.getD i default)
  by_cases q : v5 (l.getD i default) = 0
  ·rw [if_pos q] at hs
   rw [q] at sc
   refine wk1 sc ?_
   exact y8 (i' := i + 1) [] [] (by rw [← hP, hs])
  ·rw [if_neg q] at hs
   rw [hs] at hP
   generalize v5 (l.getD i default) = e at *
   subst hP
   refine wk1 sc ?_
   (refine ⟨[_], [], [], ⟨rfl, trivial⟩, ?_⟩; simp only [go_sem, *])
 ·have e : o7 l = 0 := by rw [← hP, Z5 (by omega)]; rfl
  rw [e]
  refine wk1 trivial ?_
  (refine ⟨[_], [], [], ⟨rfl, trivial⟩, ?_⟩; simp only [go_sem, *])
theorem zDn (l : List Str) (hl : l.length ≤ 4294967296) : zUL prog 30 [y4 l] [] (iV (a9 l)) [] := by
 have sc := zDl l hl
 have e0 : 6 < l.length → a9 l = 6 := fun h => by unfold a9; rw [if_pos h]
 have e1 : l.length ≤ 6 → a9 l = o7 l := fun h => by unfold a9; rw [if_neg (by omega)]
 generalize o7 l = e at *
 generalize a9 l = r at *
 refine z9 func30 rfl (fun E hE => ?_); simp only [go_sem, ntmps30]
 repeat' (first | (refine Qr rfl ?_; try intro _ hK; try simp only [go_sem, *]) | refine Qh rfl ?_ | (refine Qc rfl rfl ?_ ?_ <;> (intro hb; have hc := hb; try simp only [go_sem] at hc)) | refine z8 rfl ?_ | (refine y6 (sc) ?_; simp only [go_sem, *]) | ((with_reducible apply And.intro); focus omega) | (refine z7 hK ?_; clear hK; simp only [go_sem, *]) | simp only [z6, z5, go_sem, *])
 ·(refine ⟨[_], [], [], ⟨rfl, trivial⟩, ?_⟩; simp only [go_sem, *])
  rw [e0 (by omega)]
 ·(refine ⟨[_], [], [], ⟨rfl, trivial⟩, ?_⟩; simp only [go_sem, *])
  rw [e1 (by omega)]
theorem zHR (s : Str) (h : 0 < s.length) : zUL prog 72 [sV s] [] (iV (Y2 s)) [] := by
 have sk := zDm ((s.getD 0 0).toNat : Int)
 rw [zC3] at sk
 have hw : IntKind.i32.wrap ((s.getD 0 0).toNat : Int) = ((s.getD 0 0).toNat : Int) := by
  have := (s.getD 0 0).toNat_lt
  rw [IntKind.wrap_i32]; omega
 have e : Y2 s = t6 (s.getD 0 0) := rfl
 rw [e]
 generalize t6 (s.getD 0 0) = k at *
 refine z9 func72 rfl (fun E hE => ?_); simp only [go_sem, ntmps72]
 refine wk1 sk ?_
 (refine ⟨[_], [], [], ⟨rfl, trivial⟩, ?_⟩; simp only [go_sem, *])
theorem zHM (a b : Str) (va : ValidN a) (vb : ValidN b) : zUL prog 33 [sV a, sV b] [] (iV (l4 a b)) [] := by
 have sa := H6 a va.form (by have := va.len; omega)
 have sb := H6 b vb.form (by have := vb.len; omega)
 have ta := zHR a va.ne
 have tb := zHR b vb.ne
 have e : l4 a b = orI (zUR (zUN a) (zUN b)) (zUU (Y2 a) (Y2 b)) := rfl
 have s1 := zHC (zUN a) (zUN b)
 have s2 := zDi (Y2 a) (Y2 b)
 have so := zDk [zUR (zUN a) (zUN b), zUU (Y2 a) (Y2 b)] (by simp)
 rw [zDL] at so
 rw [e]
 generalize orI (zUR (zUN a) (zUN b)) (zUU (Y2 a) (Y2 b)) = r at *
 generalize zUR (zUN a) (zUN b) = r1 at *
 generalize zUU (Y2 a) (Y2 b) = r2 at *
 generalize zUN a = ka at *
 generalize zUN b = kb at *
 generalize Y2 a = ja at *
 generalize Y2 b = jb at *
 clear e va vb
 refine z9 func33 rfl (fun E hE => ?_); simp only [go_sem, ntmps33]
 repeat' (first | (refine Qr rfl ?_; try intro _ hK; try simp only [go_sem, *]) | refine Qh rfl ?_ | (refine Qc rfl rfl ?_ ?_ <;> (intro hb; have hc := hb; try simp only [go_sem] at hc)) | refine z8 rfl ?_ | ((first | refine y6 (s1) ?_ | refine y6 (s2) ?_); simp only [go_sem, *]) | (refine u0 (sa) ?_ ?_; (focus (simp only [go_sem, *]; done)); simp only [go_sem, *]) | (refine u0 (sb) ?_ ?_; (focus (simp only [go_sem, *]; done)); simp only [go_sem, *]) | (refine u0 (ta) ?_ ?_; (focus (simp only [go_sem, *]; done)); simp only [go_sem, *]) | (refine u0 (tb) ?_ ?_; (focus (simp only [go_sem, *]; done)); simp only [go_sem, *]) | ((with_reducible apply And.intro); focus omega) | (refine z7 hK ?_; clear hK; simp only [go_sem, *]) | simp only [z6, z5, go_sem, *])
 (refine U5 [0] (so) (by simp only [go_sem, *]) (.raw _) ?_; simp only [go_sem, *])
 repeat' (first | (refine Qr rfl ?_; try intro _ hK; try simp only [go_sem, *]) | refine Qh rfl ?_ | (refine Qc rfl rfl ?_ ?_ <;> (intro hb; have hc := hb; try simp only [go_sem] at hc)) | refine z8 rfl ?_ | ((with_reducible apply And.intro); focus omega) | (refine z7 hK ?_; clear hK; simp only [go_sem, *]) | simp only [z6, z5, go_sem, *])
 (refine ⟨[_], [], [], ⟨rfl, trivial⟩, ?_⟩; simp only [go_sem, *])
theorem zAE (a b : Str) : o7 [a, b] = if v5 a = 0 then v5 b else v5 a := by
 unfold o7
 split
 ·unfold o7
  split
  ·rename_i h; rw [h]; rfl
  ·rfl
 ·rfl
def W5 (a b : Str) : Int := o7 [a, b]
theorem zHI (a b : Str) : zUL prog 48 [sV a, sV b] [] (.tup [iV (if W5 a b = 0 then l4 a b else 0), iV (W5 a b)]) [] := by
  have sc : zUL prog 71 [.list [sV a, sV b]] [] (iV (W5 a b)) [] := zDl [a, b] (by simp)
  by_cases q : W5 a b = 0
  · have hv : ValidN a ∧ ValidN b := by
      unfold W5 at q
      rw [zAE] at q
      by_cases h : v5 a = 0
      · rw [if_pos h] at q; exact ⟨checkN_zero.1 h, checkN_zero.1 q⟩
      · rw [if_neg h] at q; exact absurd q h
    have s1 := zHM a b hv.1 hv.2
    rw [if_pos q]
    rw [q] at sc ⊢
    clear hv q
    generalize l4 a b = r at *
    refine z9 func48 rfl (fun E hE => ?_); simp only [go_sem, ntmps48]
    repeat' (first | (refine Qr rfl ?_; try intro _ hK; try simp only [go_sem, *]) | refine Qh rfl ?_ | (refine Qc rfl rfl ?_ ?_ <;> (intro hb; have hc := hb; try simp only [go_sem] at hc)) | refine z8 rfl ?_ | ((with_reducible apply And.intro); focus omega) | (refine z7 hK ?_; clear hK; simp only [go_sem, *]) | simp only [z6, z5, go_sem, *])
    (refine U5 [0] (sc) (by simp only [go_sem, *]) (.raw _) ?_; simp only [go_sem, *])
    repeat' (first | (refine Qr rfl ?_; try intro _ hK; try simp only [go_sem, *]) | refine Qh rfl ?_ | (refine Qc rfl rfl ?_ ?_ <;> (intro hb; have hc := hb; try simp only [go_sem] at hc)) | refine z8 rfl ?_ | (refine y6 (s1) ?_; simp only [go_sem, *]) | ((with_reducible apply And.intro); focus omega) | (refine z7 hK ?_; clear hK; simp only [go_sem, *]) | simp only [z6, z5, go_sem, *])
    all_goals try contradiction
    (refine ⟨[_, _], [], [], ⟨rfl, rfl, trivial⟩, ?_⟩; simp only [go_sem, *])
  · rw [if_neg q]
    generalize W5 a b = e at *
    refine z9 func48 rfl (fun E hE => ?_); simp only [go_sem, ntmps48]
    repeat' (first | (refine Qr rfl ?_; try intro _ hK; try simp only [go_sem, *]) | refine Qh rfl ?_ | (refine Qc rfl rfl ?_ ?_ <;> (intro hb; have hc := hb; try simp only [go_sem] at hc)) | refine z8 rfl ?_ | ((with_reducible apply And.intro); focus omega) | (refine z7 hK ?_; clear hK; simp only [go_sem, *]) | simp only [z6, z5, go_sem, *])
    (refine U5 [0] (sc) (by simp only [go_sem, *]) (.raw _) ?_; simp only [go_sem, *])
    repeat' (first | (refine Qr rfl ?_; try intro _ hK; try simp only [go_sem, *]) | refine Qh rfl ?_ | (refine Qc rfl rfl ?_ ?_ <;> (intro hb; have hc := hb; try simp only [go_sem] at hc)) | refine z8 rfl ?_ | ((with_reducible apply And.intro); focus omega) | (refine z7 hK ?_; clear hK; simp only [go_sem, *]) | simp only [z6, z5, go_sem, *])
    all_goals try contradiction
    (refine ⟨[_, _], [], [], ⟨rfl, rfl, trivial⟩, ?_⟩; simp only [go_sem, *])
def G5 (l : List Str) (i : Nat) : Prop := ∀ j, i ≤ j → j + 1 < l.length → ¬ l4 (l.getD (j + 1) []) (l.getD j []) < 0
theorem orderedB_iff : ∀ {l : List Str}, Q0 l = true ↔ G5 l 0
 | [] => by simp [Q0, G5]
 | [a] => by simp [Q0, G5]
 | a :: b :: r => by
  rw [Q0, Bool.and_eq_true, Bool.not_eq_true', decide_eq_false_iff_not, orderedB_iff (l := b :: r)]
  unfold G5
  constructor
  ·rintro ⟨h1, h2⟩ j _ hj
   cases j with
   | zero => simpa using h1
   | succ j =>
    have := h2 j (Nat.zero_le _) (by simpa using hj)
    simpa using this
  ·intro h
   refine ⟨by simpa using h 0 (Nat.le_refl _) (by simp), fun j _ hj => ?_⟩
   have := h (j + 1) (by omega) (by simpa using hj)
   simpa using this
theorem zOx (l : List Str) (hv : ∀ s, s ∈ l → ValidN s) (hl : l.length ≤ 1000) : zUL prog 32 [y4 l, fnV 33] [] (bV (Q0 l)) [] := by
  have hca : y9 prog 33 = true := by kernel_rfl
  have hs : ∀ a b : Str, ValidN a → ValidN b → zUL prog 33 [sV a, sV b] [] (iV (l4 a b)) [] := zHM
  by_cases h0 : l.length = 0
  · have e : l = [] := List.eq_nil_of_length_eq_zero h0
    subst e
    have hw0 : IntKind.i64.wrap (-1) = (-1 : Int) := by decide
    have er : Q0 [] = true := rfl
    rw [er]
    clear hs
    refine z9 func32 rfl (fun E hE => ?_); simp only [go_sem, ntmps32]
    refine wk1 trivial ?_
    refine x8 rfl (1) (fun i => NoQ i) 25 (fun i => [(5, iV (-1)), (0, y4 []), (1, fnV 33)]) (fun i => []) [] [] (by trivial) ?_; intro i hi hP
    refine wk1 trivial ?_
    (refine ⟨[_], [], [], ⟨rfl, trivial⟩, ?_⟩; simp only [go_sem, *])
  have hw0 : IntKind.i64.wrap ((l.length : Int) - 1) = ((l.length - 1 : Nat) : Int) := by rw [wrap_i64 (by omega) (by omega)]; omega
  refine z9 func32 rfl (fun E hE => ?_); simp only [go_sem, ntmps32]
  refine wk1 trivial ?_
  refine x8 rfl (l.length) (fun i => i + 1 ≤ l.length ∧ G5 l (l.length - 1 - i)) 25 (fun i => [(5, iV ((l.length - 1 - i : Nat) : Int)), (0, y4 l), (1, fnV 33)]) (fun i => []) [] [] (by exact ⟨by omega, fun j h1 h2 => by omega⟩) ?_; intro i hi hP
  obtain ⟨hi3, hP⟩ := hP
  generalize hk : l.length - 1 - i = k at *
  by_cases hi2 : 0 < k
  · have hw1 : IntKind.i64.wrap ((k : Int) - 1) = ((k - 1 : Nat) : Int) := by rw [wrap_i64 (by omega) (by omega)]; omega
    have hk1 : k < l.length := by omega
    have hk2 : k - 1 < l.length := by omega
    have m1 : l.getD k default ∈ l := u5 hk1
    have m2 : l.getD (k - 1) default ∈ l := u5 hk2
    have sc := hs _ _ (hv _ m1) (hv _ m2)
    have hstep : ¬ l4 (l.getD k default) (l.getD (k - 1) default) < 0 → G5 l (k - 1) := fun h j h1 h2 => by
      by_cases e : j = k - 1
      · subst e
        rw [show k - 1 + 1 = k by omega]; exact h
      · exact hP j (by omega) h2
    have hbad : l4 (l.getD k default) (l.getD (k - 1) default) < 0 → Q0 l = false := fun h => by
      cases e : Q0 l with
      | false => rfl
      | true =>
        have := orderedB_iff.1 e (k - 1) (by omega) (by omega)
        rw [show k - 1 + 1 = k by omega] at this
        exact absurd h this
    clear hs hP
    have hnx : l.length - 1 - (i + 1) = k - 1 := by omega
    generalize l4 (l.getD k default) (l.getD (k - 1) default) = c at *
    repeat' (first | (refine Qr rfl ?_; try intro _ hK; try simp only [go_sem, *]) | refine Qh rfl ?_ | refine Qd rfl (by kernel_rfl) ?_ | (refine Qc rfl rfl ?_ ?_ <;> (intro hb; have hc := hb; try simp only [go_sem] at hc)) | refine z8 rfl ?_ | (refine Qb ?_ ?_; focus kernel_rfl) | (refine y6 (sc) ?_; simp only [go_sem, *]) | ((with_reducible apply And.intro); focus omega) | (refine z7 hK ?_; clear hK; simp only [go_sem, *]) | simp only [z6, z5, go_sem, *])
    · (refine ⟨[_], [], [], ⟨rfl, trivial⟩, ?_⟩; simp only [go_sem, *])
    · exact y8 (i' := i + 1) [] [] (by rw [hnx]; exact ⟨by omega, hstep (by omega)⟩)
  · have hf : G5 l 0 := by
      have : k = 0 := by omega
      rw [this] at hP; exact hP
    rw [orderedB_iff.2 hf]
    clear hs hP hf
    refine wk1 trivial ?_
    all_goals first | contradiction | omega | skip
    (refine ⟨[_], [], [], ⟨rfl, trivial⟩, ?_⟩; simp only [go_sem, *])
end Go.Abs

namespace Go.Abs
open Go Go.Proofs Tryz
variable [Cur]
theorem zGM : ∀ {l : List Str}, o7 l = 0 → ∀ s, s ∈ l → ValidN s
 | [], _, s, h => by cases h
 | a :: r, e, s, h => by
  rw [o7] at e
  split at e
  ·rename_i ha
   rcases List.mem_cons.1 h with rfl | h
   ·exact checkN_zero.1 ha
   ·exact zGM e s h
  ·rename_i ha; exact absurd e ha
theorem zC9 {l : List Str} (h : a9 l = 0) : l.length ≤ 6 := by
 unfold a9 at h
 split at h
 ·cases h
 ·omega
theorem zBd {l : List Str} (h : a9 l = 0) : ∀ s, s ∈ l → ValidN s := by
 unfold a9 at h
 split at h
 ·cases h
 ·exact zGM h
end Go.Abs

namespace Go.Abs
open Go Go.Proofs Tryz
variable [Cur]
abbrev nV (n : Nat) : AV := iV (n : Int)
end Go.Abs

namespace Go.Abs
open Go Go.Proofs Tryz
variable [Cur]
attribute [go_sem] List.length_range
end Go.Abs

namespace Go.Abs
open Go Go.Proofs Tryz
attribute [local irreducible] q9 Hold y2
variable [Cur]
theorem zPr (r : Int) : zUL prog 135 [.raw (.int .i32 r)] [] (bV (O9 r != 1)) [] := by
 have sk := zDm r
 generalize O9 r = k at *
 refine z9 func135 rfl (fun E hE => ?_); simp only [go_sem, ntmps135]
 refine wk1 sk ?_
 (refine ⟨[_], [], [], ⟨rfl, trivial⟩, ?_⟩; simp only [go_sem, *])
theorem zPm (s : Str) (hl : s.length ≤ 4294967296) : ∃ n : Int, (0 ≤ n ↔ s.all x5 = false) ∧ zUL prog 186 [sV s, fnV 135, bV true] [] (iV n) [] := by
  have hca : y9 prog 135 = true := by kernel_rfl
  obtain ⟨k, hk⟩ : ∃ k : Nat, k = (s.takeWhile x5).length := ⟨_, rfl⟩
  have hkl : k ≤ s.length := by rw [hk]; exact (List.takeWhile_sublist _).length_le
  have hin : ∀ i, i < k → x5 (s.getD i 0) = true := fun i hi => by
    have h1 : i < (s.takeWhile x5).length := by omega
    have h2 := List.all_eq_true.1 (List.all_takeWhile (p := x5) (l := s)) _ (List.getElem_mem h1)
    have h3 : (s.takeWhile x5)[i] = s[i]'(by omega) := List.IsPrefix.getElem (List.takeWhile_prefix _) h1
    rw [h3] at h2
    simpa [List.getD, show i < s.length by omega] using h2
  have hout : k < s.length → x5 (s.getD k 0) = false := fun h => by
    have h1 : s.dropWhile x5 ≠ [] := fun e => by
      have := congrArg List.length (List.takeWhile_append_dropWhile (p := x5) (l := s))
      rw [List.length_append, e] at this
      simp at this; omega
    have h2 := List.head_dropWhile_not (p := x5) h1
    have h3 : (s.dropWhile x5).head h1 = s.getD k 0 := by
      have h4 : s = s.takeWhile x5 ++ s.dropWhile x5 := (List.takeWhile_append_dropWhile).symm
      have h5 : s.getD k 0 = (s.takeWhile x5 ++ s.dropWhile x5).getD k 0 := by rw [← h4]
      rw [h5, hk]
      generalize s.takeWhile x5 = tw
      generalize s.dropWhile x5 = dw at h1
      cases dw with
      | nil => exact absurd rfl h1
      | cons a r => simp
    rw [h3] at h2
    exact h2
  refine ⟨if k < s.length then (k : Int) else -1, ?_, ?_⟩
  · by_cases h : k < s.length
    · rw [if_pos h]
      refine ⟨fun _ => ?_, fun _ => by omega⟩
      rw [List.all_eq_false]
      refine ⟨s.getD k 0, ?_, by rw [hout h]; simp⟩
      simp [List.getD, h]
    · rw [if_neg h]
      refine ⟨fun h => by omega, fun hf => ?_⟩
      rw [List.all_eq_false] at hf
      obtain ⟨x, hx, hn⟩ := hf
      obtain ⟨i, hi, rfl⟩ := List.getElem_of_mem hx
      have := hin i (by omega)
      rw [show s.getD i 0 = s[i] by simp [List.getD, hi]] at this
      exact absurd this hn
  · have hwv : ∀ i, i < s.length → (i < k → t6 (s.getD i 0) = 1) ∧ (i = k → t6 (s.getD i 0) ≠ 1) := fun i hi => ⟨fun h => latin_kind.1 (hin i h), fun h => by
      subst h
      intro e
      have := latin_kind.2 e
      rw [hout hi] at this; cases this⟩
    clear hk hin hout
    refine z9 func186 rfl (fun E hE => ?_); simp only [go_sem, ntmps186]
    refine wk1 trivial ?_
    refine x8 rfl (s.length) (fun i => i ≤ k) 21 (fun i => [(10, .ptr 0 0), (1, fnV 135), (2, bV true)]) (fun i => [.siter ⟨s.toArray⟩ i]) [some 0] [] (by omega) ?_; intro i hi hP
    by_cases hi2 : i < s.length
    · obtain ⟨r1, r2⟩ := zGz s hi2
      obtain ⟨w1, w2⟩ := hwv i hi2
      have sk := zPr ((Utf8.decode ⟨s.toArray⟩ i).1 : Int)
      rw [r1] at sk
      generalize hde : Utf8.decode ⟨s.toArray⟩ i = d at *
      obtain ⟨d1, d2⟩ := d
      simp only at r2 sk
      clear r1 hwv
      by_cases hik : i < k
      · have e1 := w1 hik
        rw [e1] at sk r2
        have e2 := r2 (by decide)
        subst e2
        have e3 : ((1 : Int) != 1) = false := by decide
        rw [e3] at sk
        clear r2 w1 w2 e1 e3
        refine wk1 sk ?_
        exact y8 (i' := i + 1) [some 0] [] (by omega)
      · have e1 := w2 (by omega)
        have e3 : (t6 (s.getD i 0) != 1) = true := by simpa using e1
        rw [e3] at sk
        have e4 : k < s.length := by omega
        have e5 : i = k := by omega
        rw [if_pos e4]
        subst e5
        clear r2 w1 w2 e1 e3
        refine wk1 sk ?_
        (refine ⟨[_], [], [], ⟨rfl, trivial⟩, ?_⟩; simp only [go_sem, *])
    · have e4 : ¬ k < s.length := by omega
      rw [if_neg e4]
      clear hwv
      refine wk1 trivial ?_
      (refine ⟨[_], [], [], ⟨rfl, trivial⟩, ?_⟩; simp only [go_sem, *])
theorem zOt (s : Str) (hl : s.length ≤ 4294967296) : ∃ n : Int, (0 ≤ n ↔ s.all x5 = false) ∧ zUL prog 165 [sV s, fnV 135] [] (iV n) [] := by
 obtain ⟨n, hn, si⟩ := zPm s hl
 refine ⟨n, hn, ?_⟩
 clear hn
 refine z9 func165 rfl (fun E hE => ?_); simp only [go_sem, ntmps165]
 refine wk1 si ?_
 (refine ⟨[_], [], [], ⟨rfl, trivial⟩, ?_⟩; simp only [go_sem, *])
theorem zOd (s : Str) (hl : s.length ≤ 4294967296) : zUL prog 134 [sV s, fnV 135] [] (bV (!s.all x5)) [] := by
 obtain ⟨n, hn, si⟩ := zOt s hl
 have e : (!s.all x5) = decide (n ≥ 0) := by
  rw [Bool.eq_iff_iff, Bool.not_eq_true', decide_eq_true_eq]; exact hn.symm
 rw [e]
 clear hn e
 refine z9 func134 rfl (fun E hE => ?_); simp only [go_sem, ntmps134]
 refine wk1 si ?_
 (refine ⟨[_], [], [], ⟨rfl, trivial⟩, ?_⟩; simp only [go_sem, *])
theorem zBw (s : Str) (lo hi : Nat) (hl : s.length ≤ 4294967296) : zUL prog 107 [sV s, iV lo, iV hi] [] (bV (x6 s lo hi)) [] := by
 have sc := zOd s hl
 have e : x6 s lo hi = (decide ((lo : Int) ≤ s.length) && (decide ((s.length : Int) ≤ hi) && s.all x5)) := by unfold x6; simp
 rw [e]
 generalize s.all x5 = b at *
 clear e
 refine z9 func107 rfl (fun E hE => ?_); simp only [go_sem, ntmps107]
 refine wk3 sc ?_ ?_ ?_
 all_goals (refine ⟨[_], [], [], ⟨rfl, trivial⟩, ?_⟩; simp only [go_sem, *])
 all_goals simp_all
end Go.Abs

namespace Go.Abs
open Go Go.Proofs Tryz
attribute [local irreducible] q9 Hold y2
variable [Cur]
abbrev x4 (l : List Rule) : AV := .list (l.map Rule.enc)
attribute [go_sem] Rule.enc
theorem zNr {l : List Rule} {i : Nat} (h : i < l.length) : (l.drop i).all Rule.ok = ((l.getD i default).ok && (l.drop (i + 1)).all Rule.ok) := by
 rw [o5 h, List.all_cons]
theorem zNj (r : Rule) : r.ok = (x6 r.src 1 2 && (x6 r.dst 0 2 && !(r.src == r.dst))) := by
 unfold Rule.ok
 rw [Bool.eq_iff_iff]
 simp
theorem zP9 (l : List Rule) (hl : l.length ≤ 4294967296) (hr : ∀ r, r ∈ l → r.src.length ≤ 4294967296 ∧ r.dst.length ≤ 4294967296) : zUL prog 166 [x4 l] [] (iV (p8 l)) [] := by
 have e0 : 4 < l.length → p8 l = 6 := fun h => by unfold p8; rw [if_pos h]
 have e1 : l.length ≤ 4 → p8 l = if l.all Rule.ok = true then 0 else 2 := fun h => by unfold p8; rw [if_neg (by omega)]
 generalize p8 l = re at *
 refine z9 func166 rfl (fun E hE => ?_); simp only [go_sem, ntmps166]
 repeat' (first | (refine Qr rfl ?_; try intro _ hK; try simp only [go_sem, *]) | (refine Qi rfl rfl rfl rfl ?_ ?_ <;> (intro hb; (try intro _ hK); have hc := hb; try simp only [go_sem] at hc; simp only [go_sem, *])) | refine Qh rfl ?_ | (refine Qc rfl rfl ?_ ?_ <;> (intro hb; have hc := hb; try simp only [go_sem] at hc)) | refine z8 rfl ?_ | ((with_reducible apply And.intro); focus omega) | (refine z7 hK ?_; clear hK; simp only [go_sem, *]) | simp only [z6, z5, go_sem, *])
 ·(refine ⟨[_], [], [], ⟨rfl, trivial⟩, ?_⟩; simp only [go_sem, *])
  rw [e0 (by omega)]
 ·have e2 := e1 (by omega)
  rw [e2]
  clear e0 e1 e2
  refine x8 rfl (l.length) (fun i => (l.drop i).all Rule.ok = l.all Rule.ok) 32 (fun i => [(10, iV i), (9, iV l.length), (8, x4 l)]) (fun i => []) [] [] (by simp) ?_; intro i hi hP
  by_cases hi2 : i < l.length
  ·have hs := zNr hi2
   rw [zNj] at hs
   have hrl := hr _ (u5 hi2)
   have s1 := zBw (l.getD i default).src 1 2 hrl.1
   have s2 := zBw (l.getD i default).dst 0 2 hrl.2
   generalize x6 (l.getD i default).src 1 2 = b1 at *
   generalize x6 (l.getD i default).dst 0 2 = b2 at *
   clear hrl hr
   rw [hs] at hP
   cases b1 with
   | false =>
    rw [← hP]
    clear hP hs s2
    refine wk1 s1 ?_
    (refine ⟨[_], [], [], ⟨rfl, trivial⟩, ?_⟩; simp only [go_sem, *])
   | true =>
    cases b2 with
    | false =>
     rw [← hP]
     clear hP hs
     refine wk1 (cc s1 s2) ?_
     (refine ⟨[_], [], [], ⟨rfl, trivial⟩, ?_⟩; simp only [go_sem, *])
    | true =>
     generalize hb3 : ((l.getD i default).src == (l.getD i default).dst) = b3 at *
     cases b3 with
     | true =>
      rw [← hP]
      clear hP hs
      refine wk1 (cc s1 s2) ?_
      (refine ⟨[_], [], [], ⟨rfl, trivial⟩, ?_⟩; simp only [go_sem, *])
     | false =>
      simp only [Bool.true_and, Bool.not_false] at hP
      clear hs
      refine wk1 (cc s1 s2) ?_
      exact y8 (i' := i + 1) [] [] (by exact hP)
  ·have e : l.all Rule.ok = true := by rw [← hP, Z5 (by omega)]; rfl
   rw [if_pos e]
   clear hP e
   refine wk1 trivial ?_
   (refine ⟨[_], [], [], ⟨rfl, trivial⟩, ?_⟩; simp only [go_sem, *])
theorem zHF (s p : Str) (h1 : s.length ≤ 4294967296) (h2 : p.length ≤ 4294967296) : zUL prog 139 [sV s, sV p] [] (bV (p.isPrefixOf s)) [] := by
 have e : p.isPrefixOf s = (decide (p.length ≤ s.length) && (s.take p.length == p)) := by
  rw [Bool.eq_iff_iff, List.isPrefixOf_iff_prefix, Bool.and_eq_true, decide_eq_true_eq, beq_iff_eq, List.prefix_iff_eq_take]
  constructor
  ·intro h
   refine ⟨?_, h.symm⟩
   have := congrArg List.length h
   simp at this; omega
  ·rintro ⟨_, h⟩; exact h.symm
 rw [e]
 clear e
 refine z9 func139 rfl (fun E hE => ?_); simp only [go_sem, ntmps139]
 refine wk2 trivial ?_ ?_
 all_goals (refine ⟨[_], [], [], ⟨rfl, trivial⟩, ?_⟩; simp only [go_sem, *])
 all_goals simp_all
theorem zOr (s p : Str) (h1 : s.length ≤ 4294967296) (h2 : p.length ≤ 4294967296) : zUL prog 248 [sV s, sV p] [] (bV (p.isPrefixOf s)) [] := by
 have s1 := zHF s p h1 h2
 generalize p.isPrefixOf s = b at *
 refine z9 func248 rfl (fun E hE => ?_); simp only [go_sem, ntmps248]
 refine wk1 s1 ?_
 (refine ⟨[_], [], [], ⟨rfl, trivial⟩, ?_⟩; simp only [go_sem, *])
theorem zJm {x y : List Str} {i : Nat} (h1 : i < x.length) (h2 : i < y.length) : zUP (x.drop i) (y.drop i) = if zUR (x.getD i default) (y.getD i default) = 0 then zUP (x.drop (i + 1)) (y.drop (i + 1)) else zUR (x.getD i default) (y.getD i default) := by
 rw [o5 h1, o5 h2, zUP]
theorem zJl {x y : List Str} {i : Nat} (h1 : i < x.length) (h2 : y.length ≤ i) : zUP (x.drop i) (y.drop i) = 1 := by
 rw [o5 h1, Z5 h2, zUP]
theorem zJk {x y : List Str} {i : Nat} (h1 : x.length ≤ i) : zUP (x.drop i) (y.drop i) = if i < y.length then -1 else 0 := by
 rw [Z5 h1]
 by_cases h2 : i < y.length
 ·rw [o5 h2, zUP, if_pos h2]
 ·rw [Z5 (by omega), zUP, if_neg h2]
theorem zOa (x y : List Str) (h1 : x.length ≤ 4294967296) (h2 : y.length ≤ 4294967296) : zUL prog 189 [y4 x, y4 y] [] (iV (zUP x y)) [] := by
 refine z9 func189 rfl (fun E hE => ?_); simp only [go_sem, ntmps189]
 refine wk1 trivial ?_
 refine x8 rfl (x.length) (fun i => zUP (x.drop i) (y.drop i) = zUP x y ∧ i ≤ y.length) 36 (fun i => [(11, iV i), (10, iV x.length), (9, y4 x), (0, y4 x), (1, y4 y)]) (fun i => []) [] [] (by simp) ?_; intro i hi hP
 obtain ⟨hP, hiy⟩ := hP
 by_cases hi2 : i < x.length
 ·by_cases hi3 : i < y.length
  ·have hs := zJm hi2 hi3
   have sc := zOc (x.getD i default) (y.getD i default)
   rw [hs] at hP
   clear hs
   have gi : ¬ ((i : Int) ≥ (y.length : Int)) := by omega
   by_cases q : zUR (x.getD i default) (y.getD i default) = 0
   ·rw [if_pos q] at hP
    rw [q] at sc
    refine wk1 sc ?_
    all_goals first | contradiction | omega | skip
    exact y8 (i' := i + 1) [] [] (by exact ⟨hP, by omega⟩)
   ·rw [if_neg q] at hP
    generalize zUR (x.getD i default) (y.getD i default) = c at *
    rw [← hP]
    clear hP
    refine wk1 sc ?_
    all_goals first | contradiction | omega | skip
    (refine ⟨[_], [], [], ⟨rfl, trivial⟩, ?_⟩; simp only [go_sem, *])
  ·rw [zJl hi2 (by omega)] at hP
   rw [← hP]
   clear hP
   refine wk1 trivial ?_
   all_goals first | contradiction | omega | skip
   (refine ⟨[_], [], [], ⟨rfl, trivial⟩, ?_⟩; simp only [go_sem, *])
 ·have hix : i = x.length := by omega
  subst hix
  rw [zJk (Nat.le_refl _)] at hP
  by_cases hxy : x.length < y.length
  ·rw [if_pos hxy] at hP
   rw [← hP]
   clear hP
   refine wk1 trivial ?_
   all_goals first | contradiction | omega | skip
   (refine ⟨[_], [], [], ⟨rfl, trivial⟩, ?_⟩; simp only [go_sem, *])
  ·rw [if_neg hxy] at hP
   rw [← hP]
   clear hP
   refine wk1 trivial ?_
   all_goals first | contradiction | omega | skip
   (refine ⟨[_], [], [], ⟨rfl, trivial⟩, ?_⟩; simp only [go_sem, *])
end Go.Abs

namespace Go.Abs
open Go Go.Proofs Tryz
attribute [local irreducible] q9 Hold y2
variable [Cur]
section
variable {α : Type} {a b : List α} {i : Nat}
theorem zHz (ha : a.length ≤ i) (hl : a.length = b.length) (h : a.take i = b.take i) : a = b := by
 rwa [List.take_of_length_le ha, List.take_of_length_le (by omega)] at h
variable [Inhabited α]
theorem zD2 {l : List α} (h : i < l.length) : l.take (i + 1) = l.take i ++ [l.getD i default] := by
 rw [List.take_add_one]; simp [List.getD, h]
theorem zH0 (ha : i < a.length) (hb : i < b.length) (h : a.take i = b.take i) (e : a.getD i default = b.getD i default) : a.take (i + 1) = b.take (i + 1) := by
 rw [zD2 ha, zD2 hb, h, e]
theorem zH1 (e : ¬ a.getD i default = b.getD i default) : ¬ a = b := fun h => e (by rw [h])
end
theorem zF0 {α : Type} {a b : List α} (h : ¬ a.length = b.length) : ¬ a = b := fun e => h (by rw [e])
theorem zOn (a b : List Int) (h1 : a.length ≤ 4294967296) : zUL prog 49 [E2 a, E2 b] [] (bV (decide (a = b))) [] := by
 refine z9 func49 rfl (fun E hE => ?_); simp only [go_sem, ntmps49]
 repeat' (first | (refine Qr rfl ?_; try intro _ hK; try simp only [go_sem, *]) | refine Qh rfl ?_ | refine Qd rfl (by kernel_rfl) ?_ | (refine Qc rfl rfl ?_ ?_ <;> (intro hb; have hc := hb; try simp only [go_sem] at hc)) | refine z8 rfl ?_ | (refine Qb ?_ ?_; focus kernel_rfl) | ((with_reducible apply And.intro); focus omega) | (refine z7 hK ?_; clear hK; simp only [go_sem, *]) | simp only [z6, z5, go_sem, *])
 ·(refine ⟨[_], [], [], ⟨rfl, trivial⟩, ?_⟩; simp only [go_sem, *])
  simp [zF0 (a := a) (b := b) (by omega)]
 ·have hlb : a.length = b.length := by omega
  refine x8 rfl (b.length) (fun i => a.take i = b.take i) 26 (fun i => [(5, iV i), (0, E2 a), (1, E2 b)]) (fun i => []) [] [] (by simp) ?_; intro i hi hP
  repeat' (first | (refine Qr rfl ?_; try intro _ hK; try simp only [go_sem, *]) | refine Qh rfl ?_ | refine Qd rfl (by kernel_rfl) ?_ | (refine Qc rfl rfl ?_ ?_ <;> (intro hb; have hc := hb; try simp only [go_sem] at hc)) | refine z8 rfl ?_ | (refine Qb ?_ ?_; focus kernel_rfl) | ((with_reducible apply And.intro); focus omega) | (refine z7 hK ?_; clear hK; simp only [go_sem, *]) | simp only [z6, z5, go_sem, *])
  ·(refine ⟨[_], [], [], ⟨rfl, trivial⟩, ?_⟩; simp only [go_sem, *])
   simp [zH1 (a := a) (b := b) (i := i) (by assumption)]
  ·exact y8 (i' := i + 1) [] [] (by exact zH0 (by omega) (by omega) hP (by assumption))
  ·(refine ⟨[_], [], [], ⟨rfl, trivial⟩, ?_⟩; simp only [go_sem, *])
   simp [zHz (by omega) hlb hP]
theorem zOo (a b : List Str) (h1 : a.length ≤ 4294967296) : zUL prog 50 [y4 a, y4 b] [] (bV (decide (a = b))) [] := by
 refine z9 func50 rfl (fun E hE => ?_); simp only [go_sem, ntmps50]
 repeat' (first | (refine Qr rfl ?_; try intro _ hK; try simp only [go_sem, *]) | refine Qh rfl ?_ | refine Qd rfl (by kernel_rfl) ?_ | (refine Qc rfl rfl ?_ ?_ <;> (intro hb; have hc := hb; try simp only [go_sem] at hc)) | refine z8 rfl ?_ | (refine Qb ?_ ?_; focus kernel_rfl) | ((with_reducible apply And.intro); focus omega) | (refine z7 hK ?_; clear hK; simp only [go_sem, *]) | simp only [z6, z5, go_sem, *])
 ·(refine ⟨[_], [], [], ⟨rfl, trivial⟩, ?_⟩; simp only [go_sem, *])
  simp [zF0 (a := a) (b := b) (by omega)]
 ·have hlb : a.length = b.length := by omega
  refine x8 rfl (b.length) (fun i => a.take i = b.take i) 26 (fun i => [(5, iV i), (0, y4 a), (1, y4 b)]) (fun i => []) [] [] (by simp) ?_; intro i hi hP
  repeat' (first | (refine Qr rfl ?_; try intro _ hK; try simp only [go_sem, *]) | refine Qh rfl ?_ | refine Qd rfl (by kernel_rfl) ?_ | (refine Qc rfl rfl ?_ ?_ <;> (intro hb; have hc := hb; try simp only [go_sem] at hc)) | refine z8 rfl ?_ | (refine Qb ?_ ?_; focus kernel_rfl) | ((with_reducible apply And.intro); focus omega) | (refine z7 hK ?_; clear hK; simp only [go_sem, *]) | simp only [z6, z5, go_sem, *])
  ·(refine ⟨[_], [], [], ⟨rfl, trivial⟩, ?_⟩; simp only [go_sem, *])
   simp [zH1 (a := a) (b := b) (i := i) (by assumption)]
  ·exact y8 (i' := i + 1) [] [] (by exact zH0 (by omega) (by omega) hP (by assumption))
  ·(refine ⟨[_], [], [], ⟨rfl, trivial⟩, ?_⟩; simp only [go_sem, *])
   simp [zHz (by omega) hlb hP]
theorem zBu (d : Dice) (ws : List Str) (h : d.list.length ≤ 4294967296) (h0 : 0 < ws.length) (h1 : ws.length ≤ 1000) : zUL prog 65 [.ptr 0 0, y4 ws] [y3 d] (sV (Y0 ws d)) [y3 (v6 ws d)] := by
 have st := R1 d ((ws.length : Int) - 1) h (by omega)
 have hle := W1 (n := (ws.length : Int) - 1) (by omega) d
 have hw : IntKind.i64.wrap ((ws.length : Int) - 1) = (ws.length : Int) - 1 := wrap_i64 (by omega) (by omega)
 have e1 : Y0 ws d = ws.getD (toN ((ws.length : Int) - 1) d).toNat default := rfl
 have e2 : v6 ws d = toD ((ws.length : Int) - 1) d := rfl
 rw [e1, e2]
 clear e1 e2
 obtain ⟨n, hn⟩ : ∃ n : Nat, toN ((ws.length : Int) - 1) d = n := ⟨_, (Int.toNat_of_nonneg hle.1).symm⟩
 rw [hn] at st hle ⊢
 rw [Int.toNat_natCast]
 have hlt : n < ws.length := by omega
 generalize toD ((ws.length : Int) - 1) d = d2 at *
 clear hn hle
 refine z9 func65 rfl (fun E hE => ?_); simp only [go_sem, ntmps65]
 refine wk1 (own [0] (st)) ?_
 refine ⟨[_], [some 0], [], ⟨rfl, trivial⟩, ?_⟩
 simp only [go_sem, *]
end Go.Abs

namespace Go.Abs
open Go Go.Proofs Tryz
attribute [local irreducible] q9 Hold y2
variable [Cur]
theorem zOE (d : Dice) : (zVC d).1.length ≤ 7 := by
 have k1 : (wordsU.all fun x => decide (x.length ≤ 7)) = true := by decide
 have k2 : (wordsL.all fun x => decide (x.length ≤ 7)) = true := by decide
 unfold zVC zVn
 split
 ·exact of_decide_eq_true (List.all_eq_true.1 k1 _ (zAI (by decide) _))
 ·exact of_decide_eq_true (List.all_eq_true.1 k2 _ (zAI (by decide) _))
theorem zCZ {s : Str} {k : Nat} (h : k < s.length) : List.drop k (List.take (k + 1) s) = [s.getD k 0] := by
 rw [zD2 h, List.drop_append_of_le_length (by simp; omega), List.drop_of_length_le (by simp; omega)]; rfl
theorem zF3 (set : Str) (n : Nat) (d : Dice) (s : Str) : V8 set (n + 1) d s = V8 set n (toD ((set.length : Int) - 1) d) (s ++ [set.getD (toN ((set.length : Int) - 1) d).toNat 0]) := rfl
theorem zOz (d : Dice) (most : Int) (h : d.list.length ≤ 4294967296) (hm : 1 ≤ most ∧ most ≤ 1000) : zUL prog 66 [.ptr 0 0, iV most] [y3 d] (sV (X6 d most).1) [y3 (X6 d most).2] := by
 have hd1 : (v6 wordsL d).list = d.list := o0 _ _
 have s1 := zBu d wordsL h (by decide) (by decide)
 have s2 := zBt (v6 wordsL d) 3 (by rw [hd1]; exact h) (by omega)
 have hd2 : (r8 3 (v6 wordsL d)).list = d.list := (o0 _ _).trans hd1
 have s3 := zBu (r8 3 (v6 wordsL d)) wordsU (by rw [hd2]; exact h) (by decide) (by decide)
 have hset := zG7 d
 have hset7 := zOE d
 obtain ⟨p, hp⟩ : ∃ p, zVC d = p := ⟨_, rfl⟩
 have hT : X6 d most = zBg most p := by unfold X6; rw [hp]
 rw [hT]
 rw [hp] at hset hset7
 unfold zVC zVn at hp
 have hmin : 1 ≤ min most 6 ∧ min most 6 ≤ 6 := by omega
 have hq := zBU (lo := 1) (hi := min most 6) hmin.1 p.2
 have s4 := zOp p.2 1 (min most 6) (by rw [hset.2.2]; exact h) (by omega) (by omega)
 have hT2 : zBg most p = V8 p.1 (X4 1 (min most 6) p.2).toNat (M8 1 (min most 6) p.2) [] := rfl
 rw [hT2]
 have hd3 : (M8 1 (min most 6) p.2).list = d.list := (o0 _ _).trans hset.2.2
 obtain ⟨n, hn⟩ : ∃ n : Nat, X4 1 (min most 6) p.2 = n := ⟨(X4 1 (min most 6) p.2).toNat, by omega⟩
 rw [hn] at s4 hq ⊢
 rw [Int.toNat_natCast]
 have hn6 : n ≤ 6 := by omega
 generalize hT3 : V8 p.1 n (M8 1 (min most 6) p.2) [] = T at *
 obtain ⟨dd, hdd⟩ : ∃ dd, M8 1 (min most 6) p.2 = dd := ⟨_, rfl⟩
 rw [hdd] at s4 hT3 hd3
 have hdl : dd.list.length ≤ 4294967296 := by rw [hd3]; exact h
 obtain ⟨set, d4⟩ := p
 have hsl : 0 < set.length := hset.1
 have hsl2 : set.length ≤ 7 := hset7
 clear hn hT hT2 hq hd1 hd2 hd3 hset hdd
 simp only at s4 hT3
 generalize L1 3 (v6 wordsL d) = t at *
 generalize r8 3 (v6 wordsL d) = d2 at *
 generalize v6 wordsL d = d1 at *
 generalize Y0 wordsL d = a at *
 generalize Y0 wordsU d2 = b at *
 generalize v6 wordsU d2 = d3 at *
 generalize hmm : min most 6 = mm at *
 have hw0 : y4 wordsL = .list [sV [97, 101, 115], sV [115, 104, 101, 116, 97], sV [115, 109, 105, 116, 121, 104, 97], sV [99, 104, 106, 97], sV [97, 110, 110, 101]] := rfl
 have hw1 : y4 wordsU = .list [sV [65, 69, 83], sV [88, 69, 84, 65], sV [83, 77, 73, 84, 89, 65], sV [67, 74, 65, 88], sV [65, 78, 78, 69]] := rfl
 rw [hw0] at s1
 rw [hw1] at s3
 clear hw0 hw1 hset7
 have hmi : zVl most 6 = mm := by rw [← hmm]; unfold zVl; omega
 clear hmm
 cases t
 ·have hp : (a, d2) = (set, d4) := hp
  cases hp
  clear s3
  refine z9 func66 rfl (fun E hE => ?_); simp only [go_sem, ntmps66]
  repeat' (first | (refine Qr rfl ?_; try intro _ hK; try simp only [go_sem, *]) | refine Qh rfl ?_ | (refine Qc rfl rfl ?_ ?_ <;> (intro hb; have hc := hb; try simp only [go_sem] at hc)) | refine z8 rfl ?_ | ((with_reducible apply And.intro); focus omega) | (refine z7 hK ?_; clear hK; simp only [go_sem, *]) | simp only [z6, z5, go_sem, *])
  refine M5 [0] [1] s1 rfl (by simp only [go_sem]) (by simp) ?_ ?_ (by simp [go_sem]) (by simp [go_sem]) ?_
  ·simp only [go_sem, *]
  ·simp only [go_sem, *]
  simp only [go_sem, w5, *]
  repeat' (first | (refine Qr rfl ?_; try intro _ hK; try simp only [go_sem, *]) | refine Qh rfl ?_ | (refine Qc rfl rfl ?_ ?_ <;> (intro hb; have hc := hb; try simp only [go_sem] at hc)) | refine z8 rfl ?_ | (refine u9 [0] (s2) ?_; simp only [go_sem, *]) | ((with_reducible apply And.intro); focus omega) | (refine z7 hK ?_; clear hK; simp only [go_sem, *]) | simp only [z6, z5, go_sem, *])
  all_goals try contradiction
  repeat' (first | (refine Qr rfl ?_; try intro _ hK; try simp only [go_sem, *]) | refine Qh rfl ?_ | (refine Qc rfl rfl ?_ ?_ <;> (intro hb; have hc := hb; try simp only [go_sem] at hc)) | refine z8 rfl ?_ | (refine u9 [0] (s4) ?_; simp only [go_sem, *]) | ((with_reducible apply And.intro); focus omega) | (refine z7 hK ?_; clear hK; simp only [go_sem, *]) | simp only [z6, z5, go_sem, *])
  all_goals try contradiction
  refine A6 rfl (n) (fun i (d' : Dice) (s : Str) => V8 set (n - i) d' s = T ∧ d'.list.length ≤ 4294967296 ∧ s.length ≤ i) 38 (fun i d' s => [(7, iV ((n - i : Nat) : Int)), (6, sV s), (5, sV set), (0, .ptr 0 0)]) (fun i d' s => [y3 d']) [some 0] [] (dd) ([]) (by exact ⟨hT3, hdl, by simp⟩) ?_; intro i d' s hi hP
  clear hT3 hdl s4 s2 s1
  obtain ⟨hP, hdl, hsi⟩ := hP
  by_cases hi2 : i < n
  ·rw [show n - i = (n - (i + 1)) + 1 by omega, zF3] at hP
   have st := R1 d' ((set.length : Int) - 1) hdl (by omega)
   have hle := W1 (n := (set.length : Int) - 1) (by omega) d'
   have hdl2 : (toD ((set.length : Int) - 1) d').list.length ≤ 4294967296 := by rw [o0]; exact hdl
   obtain ⟨k, hk0⟩ : ∃ k : Nat, toN ((set.length : Int) - 1) d' = k := ⟨_, (Int.toNat_of_nonneg hle.1).symm⟩
   rw [hk0] at st hle hP
   rw [Int.toNat_natCast] at hP
   have hkl : k < set.length := by omega
   have hw : IntKind.i64.wrap ((set.length : Int) - 1) = (set.length : Int) - 1 := wrap_i64 (by omega) (by omega)
   have hw1 : IntKind.i64.wrap ((k : Int) + 1) = ((k + 1 : Nat) : Int) := u6 (by omega)
   have hw2 : IntKind.i64.wrap (((n - i : Nat) : Int) - 1) = ((n - (i + 1) : Nat) : Int) := by rw [wrap_i64 (by omega) (by omega)]; omega
   have hj : (0 : Int) < ((n - i : Nat) : Int) := by omega
   have hdt := zCZ hkl
   generalize toD ((set.length : Int) - 1) d' = d3 at *
   clear hk0 hle
   refine wk1 (own [0] (st)) ?_
   exact S8 (i' := i + 1) [some 0] [] (d3) (s ++ [set.getD k 0]) (by exact ⟨hP, hdl2, by simp; omega⟩)
  ·rw [show n - i = 0 by omega] at hP
   have hP : (s, d') = T := hP
   subst hP
   have hj : ¬ (0 : Int) < ((n - i : Nat) : Int) := by omega
   refine wk1 trivial ?_
   all_goals first | contradiction | omega | skip
   refine ⟨[_], [some 0], [], ⟨rfl, trivial⟩, ?_⟩
   simp only [go_sem, *]
 ·have hp : (b, d3) = (set, d4) := hp
  cases hp
  refine z9 func66 rfl (fun E hE => ?_); simp only [go_sem, ntmps66]
  repeat' (first | (refine Qr rfl ?_; try intro _ hK; try simp only [go_sem, *]) | refine Qh rfl ?_ | (refine Qc rfl rfl ?_ ?_ <;> (intro hb; have hc := hb; try simp only [go_sem] at hc)) | refine z8 rfl ?_ | ((with_reducible apply And.intro); focus omega) | (refine z7 hK ?_; clear hK; simp only [go_sem, *]) | simp only [z6, z5, go_sem, *])
  refine M5 [0] [1] s1 rfl (by simp only [go_sem]) (by simp) ?_ ?_ (by simp [go_sem]) (by simp [go_sem]) ?_
  ·simp only [go_sem, *]
  ·simp only [go_sem, *]
  simp only [go_sem, w5, *]
  repeat' (first | (refine Qr rfl ?_; try intro _ hK; try simp only [go_sem, *]) | refine Qh rfl ?_ | (refine Qc rfl rfl ?_ ?_ <;> (intro hb; have hc := hb; try simp only [go_sem] at hc)) | refine z8 rfl ?_ | (refine u9 [0] (s2) ?_; simp only [go_sem, *]) | ((with_reducible apply And.intro); focus omega) | (refine z7 hK ?_; clear hK; simp only [go_sem, *]) | simp only [z6, z5, go_sem, *])
  all_goals try contradiction
  refine M5 [0] [2] s3 rfl (by simp only [go_sem]) (by simp) ?_ ?_ (by simp [go_sem]) (by simp [go_sem]) ?_
  ·simp only [go_sem, *]
  ·simp only [go_sem, *]
  simp only [go_sem, w5, *]
  repeat' (first | (refine Qr rfl ?_; try intro _ hK; try simp only [go_sem, *]) | refine Qh rfl ?_ | (refine Qc rfl rfl ?_ ?_ <;> (intro hb; have hc := hb; try simp only [go_sem] at hc)) | refine z8 rfl ?_ | (refine u9 [0] (s4) ?_; simp only [go_sem, *]) | ((with_reducible apply And.intro); focus omega) | (refine z7 hK ?_; clear hK; simp only [go_sem, *]) | simp only [z6, z5, go_sem, *])
  all_goals try contradiction
  refine A6 rfl (n) (fun i (d' : Dice) (s : Str) => V8 set (n - i) d' s = T ∧ d'.list.length ≤ 4294967296 ∧ s.length ≤ i) 38 (fun i d' s => [(7, iV ((n - i : Nat) : Int)), (6, sV s), (5, sV set), (0, .ptr 0 0)]) (fun i d' s => [y3 d']) [some 0] [] (dd) ([]) (by exact ⟨hT3, hdl, by simp⟩) ?_; intro i d' s hi hP
  clear hT3 hdl s4 s3 s2 s1
  obtain ⟨hP, hdl, hsi⟩ := hP
  by_cases hi2 : i < n
  ·rw [show n - i = (n - (i + 1)) + 1 by omega, zF3] at hP
   have st := R1 d' ((set.length : Int) - 1) hdl (by omega)
   have hle := W1 (n := (set.length : Int) - 1) (by omega) d'
   have hdl2 : (toD ((set.length : Int) - 1) d').list.length ≤ 4294967296 := by rw [o0]; exact hdl
   obtain ⟨k, hk0⟩ : ∃ k : Nat, toN ((set.length : Int) - 1) d' = k := ⟨_, (Int.toNat_of_nonneg hle.1).symm⟩
   rw [hk0] at st hle hP
   rw [Int.toNat_natCast] at hP
   have hkl : k < set.length := by omega
   have hw : IntKind.i64.wrap ((set.length : Int) - 1) = (set.length : Int) - 1 := wrap_i64 (by omega) (by omega)
   have hw1 : IntKind.i64.wrap ((k : Int) + 1) = ((k + 1 : Nat) : Int) := u6 (by omega)
   have hw2 : IntKind.i64.wrap (((n - i : Nat) : Int) - 1) = ((n - (i + 1) : Nat) : Int) := by rw [wrap_i64 (by omega) (by omega)]; omega
   have hj : (0 : Int) < ((n - i : Nat) : Int) := by omega
   have hdt := zCZ hkl
   generalize toD ((set.length : Int) - 1) d' = d3' at *
   clear hk0 hle
   refine wk1 (own [0] (st)) ?_
   exact S8 (i' := i + 1) [some 0] [] (d3') (s ++ [set.getD k 0]) (by exact ⟨hP, hdl2, by simp; omega⟩)
  ·rw [show n - i = 0 by omega] at hP
   have hP : (s, d') = T := hP
   subst hP
   have hj : ¬ (0 : Int) < ((n - i : Nat) : Int) := by omega
   refine wk1 trivial ?_
   all_goals first | contradiction | omega | skip
   refine ⟨[_], [some 0], [], ⟨rfl, trivial⟩, ?_⟩
   simp only [go_sem, *]
end Go.Abs

namespace Go.Abs
open Go Go.Proofs Tryz
attribute [local irreducible] q9 Hold y2
variable [Cur]
theorem zMw (most : Int) (n : Nat) (d : Dice) (out : List Str) : S7 most (n + 1) d out = S7 most n (T7 out (X6 d most)).2 (out ++ [(T7 out (X6 d most)).1]) := rfl
theorem zO0 (d : Dice) (many most : Int) (h : d.list.length ≤ 4294967296) (hm : 0 ≤ many ∧ many ≤ 1000) (h1 : 1 ≤ most ∧ most ≤ 1000) :
  zUL prog 24 [.ptr 0 0, iV many, iV most] [y3 d] (.own 1 1 0 (H0 d many most).1.length) [y3 (H0 d many most).2, .row 1 ((H0 d many most).1.map sV)] := by
 have st := R1 d many h (by omega)
 have hle := W1 hm.1 d
 have hT : H0 d many most = S7 most (toN many d).toNat (toD many d) [] := rfl
 rw [hT]
 clear hT
 obtain ⟨n, hn⟩ : ∃ n : Nat, toN many d = n := ⟨_, (Int.toNat_of_nonneg hle.1).symm⟩
 rw [hn] at st hle ⊢
 rw [Int.toNat_natCast]
 have hn6 : n ≤ 1000 := by omega
 generalize hT3 : S7 most n (toD many d) [] = T at *
 have hdl : (toD many d).list.length ≤ 4294967296 := by rw [o0]; exact h
 generalize toD many d = dd at *
 clear hn hle h hm
 refine z9 func24 rfl (fun E hE => ?_); simp only [go_sem, ntmps24]
 refine wk1 (own [0] (st)) ?_
 refine A6 rfl (n) (fun i (d' : Dice) (outs : List Str) => S7 most (n - i) d' outs = T ∧ d'.list.length ≤ 4294967296 ∧ outs.length = i ∧ ∀ s, s ∈ outs → K6 most s) 66 (fun i d' outs => [(8, iV ((n - i : Nat) : Int)), (7, .own 1 1 0 i), (0, .ptr 0 0), (2, iV most)]) (fun i d' outs => [y3 d', .row 1 (outs.map sV)]) [some 0, none] [] (dd) ([]) (by exact ⟨hT3, hdl, rfl, fun s hs => by cases hs⟩) ?_; intro i d' outs hi hP
 clear hT3 hdl st
 obtain ⟨hP, hdl, hlen, hok⟩ := hP
 by_cases hi2 : i < n
 ·rw [show n - i = (n - (i + 1)) + 1 by omega, zMw] at hP
  have sN := zOz d' most hdl h1
  have hN := zGL h1.1 (d := d')
  obtain ⟨x, d1, hx⟩ : ∃ x d1, X6 d' most = (x, d1) := ⟨_, _, rfl⟩
  rw [hx] at sN hN hP
  have hA := zEI hok (p := (x, d1)) ⟨hN.1, hN.2.1⟩
  simp only at sN hN hA
  have hd1 : d1.list.length ≤ 4294967296 := by rw [hN.2.2]; exact hdl
  have hxl : x.length ≤ 6 := hN.1.len
  have hw2 : IntKind.i64.wrap (((n - i : Nat) : Int) - 1) = ((n - (i + 1) : Nat) : Int) := by rw [wrap_i64 (by omega) (by omega)]; omega
  have hj : (0 : Int) < ((n - i : Nat) : Int) := by omega
  obtain ⟨y, d9, hq⟩ : ∃ y d9, T7 outs (x, d1) = (y, d9) := ⟨_, _, rfl⟩
  rw [hq] at hP hA
  have hnext : S7 most (n - (i + 1)) d9 (outs ++ [y]) = T ∧ d9.list.length ≤ 4294967296 ∧ (outs ++ [y]).length = i + 1 ∧ ∀ s, s ∈ outs ++ [y] → K6 most s :=
   ⟨hP, by rw [hA.2]; exact hd1, by simp [hlen], fun s hs => by
    rcases List.mem_append.1 hs with hs | hs
    ·exact hok s hs
    ·rw [List.mem_singleton.1 hs]; exact hA.1⟩
  clear hP hA hN hx
  by_cases h0 : 0 < outs.length
  ·have so := zBt d1 3 hd1 (by omega)
   have hd2 : (r8 3 d1).list.length ≤ 4294967296 := by unfold r8; rw [o0]; exact hd1
   unfold T7 at hq
   rw [if_pos h0] at hq
   have hq : zCE outs (x, d1) (L1 3 d1) (r8 3 d1) = (y, d9) := hq
   have h0i : (0 : Int) < (i : Int) := by omega
   generalize r8 3 d1 = d2 at *
   generalize L1 3 d1 = t at *
   cases t
   ·have hq : (x, d2) = (y, d9) := hq
    obtain ⟨e1, e2⟩ := Prod.mk.inj hq
    clear hq
    subst e1 e2
    clear hok
    refine wk1 (cc (own [0] (sN)) (own [0] (so))) ?_
    all_goals first | contradiction | omega | skip
    exact S8 (i' := i + 1) [some 0, some 3] [] (d2) (outs ++ [x]) (by exact hnext)
   ·have hq : G1 (zAH outs d2) (toD ((outs.length : Int) - 1) d2) = (y, d9) := hq
    have hpk0 : ∀ e : Int, zAH outs d2 = outs.getD (toN ((outs.length : Int) - 1) d2).toNat default := fun _ => rfl
    rw [hlen] at hq hpk0
    have st := R1 d2 ((i : Int) - 1) hd2 (by omega)
    have hle := W1 (n := (i : Int) - 1) (by omega) d2
    have hd3 : (toD ((i : Int) - 1) d2).list.length ≤ 4294967296 := by rw [o0]; exact hd2
    obtain ⟨k, hk0⟩ : ∃ k : Nat, toN ((i : Int) - 1) d2 = k := ⟨_, (Int.toNat_of_nonneg hle.1).symm⟩
    have hpk : zAH outs d2 = outs.getD k default := by rw [hpk0 0, hk0, Int.toNat_natCast]
    rw [hk0] at st hle
    rw [hpk] at hq
    have hkl : k < outs.length := by omega
    have hkli : k < i := by omega
    have hz := (hok _ (u5 hkl)).1
    have hw : IntKind.i64.wrap ((i : Int) - 1) = (i : Int) - 1 := wrap_i64 (by omega) (by omega)
    generalize toD ((i : Int) - 1) d2 = d3 at *
    have hz1 : 0 < (outs.getD k default).length := hz.ne
    have hz6 : (outs.getD k default).length ≤ 6 := hz.len
    clear hk0 hle hpk hpk0 hok hz
    generalize hzz : outs.getD k default = z at *
    by_cases hv : 97 ≤ (z.getD 0 0).toNat ∧ 1 < z.length
    ·have s2 := zBt d3 2 hd3 (by omega)
     have hd4 : (r8 2 d3).list.length ≤ 4294967296 := by unfold r8; rw [o0]; exact hd3
     unfold G1 at hq
     rw [if_pos hv] at hq
     generalize r8 2 d3 = d4 at *
     generalize L1 2 d3 = t2 at *
     obtain ⟨hv1, hv2⟩ := hv
     cases t2
     ·have hq : (z, d4) = (y, d9) := hq
      obtain ⟨e1, e2⟩ := Prod.mk.inj hq
      clear hq
      subst e1 e2
      repeat' (first | (refine Qr rfl ?_; try intro _ hK; try simp only [go_sem, *]) | (refine Qi rfl rfl rfl rfl ?_ ?_ <;> (intro hb; (try intro _ hK); have hc := hb; try simp only [go_sem] at hc; simp only [go_sem, *])) | refine Qh rfl ?_ | refine Qd rfl (by kernel_rfl) ?_ | (refine Qc rfl rfl ?_ ?_ <;> (intro hb; have hc := hb; try simp only [go_sem] at hc)) | refine z8 rfl ?_ | (refine Qb ?_ ?_; focus kernel_rfl) | (refine x7 [0] [] (sN) (by simp) ?_ ?_ (by simp) (.inl rfl) ?_ ?_ ?_; (iterate 2 (focus (simp only [go_sem, *]; done))); (iterate 2 (focus (first | (simp; done) | (simp [go_sem]; done)))); simp only [go_sem, *]) | (refine x7 [0] [] (so) (by simp) ?_ ?_ (by simp) (.inl rfl) ?_ ?_ ?_; (iterate 2 (focus (simp only [go_sem, *]; done))); (iterate 2 (focus (first | (simp; done) | (simp [go_sem]; done)))); simp only [go_sem, *]) | (refine x7 [0] [] (s2) (by simp) ?_ ?_ (by simp) (.inl rfl) ?_ ?_ ?_; (iterate 2 (focus (simp only [go_sem, *]; done))); (iterate 2 (focus (first | (simp; done) | (simp [go_sem]; done)))); simp only [go_sem, *]) | (refine x7 [0] [] (st) (by simp) ?_ ?_ (by simp) (.inl rfl) ?_ ?_ ?_; (iterate 2 (focus (simp only [go_sem, *]; done))); (iterate 2 (focus (first | (simp; done) | (simp [go_sem]; done)))); simp only [go_sem, *]) | ((with_reducible apply And.intro); focus omega) | (refine z7 hK ?_; clear hK; simp only [go_sem, *]) | simp only [z6, z5, go_sem, *])
      all_goals first | contradiction | omega | skip
      exact S8 (i' := i + 1) [some 0, some 3] [] (d4) (outs ++ [z]) (by exact hnext)
     ·have hq : (O4 z (toN ((z.length : Int) - 1) d4).toNat, toD ((z.length : Int) - 1) d4) = (y, d9) := hq
      have s5 := R1 d4 ((z.length : Int) - 1) hd4 (by omega)
      have hle := W1 (n := (z.length : Int) - 1) (by omega) d4
      obtain ⟨m, hm0⟩ : ∃ m : Nat, toN ((z.length : Int) - 1) d4 = m := ⟨_, (Int.toNat_of_nonneg hle.1).symm⟩
      rw [hm0] at s5 hle hq
      rw [Int.toNat_natCast] at hq
      have hml : m < z.length := by omega
      have hwz : IntKind.i64.wrap ((z.length : Int) - 1) = (z.length : Int) - 1 := wrap_i64 (by omega) (by omega)
      have hwm : IntKind.i64.wrap ((m : Int) + 1) = ((m + 1 : Nat) : Int) := u6 (by omega)
      generalize toD ((z.length : Int) - 1) d4 = d5 at *
      obtain ⟨e1, e2⟩ := Prod.mk.inj hq
      clear hq hm0 hle
      subst e1 e2
      have hcut : List.take m z ++ List.drop (m + 1) z = O4 z m := rfl
      repeat' (first | (refine Qr rfl ?_; try intro _ hK; try simp only [go_sem, *]) | (refine Qi rfl rfl rfl rfl ?_ ?_ <;> (intro hb; (try intro _ hK); have hc := hb; try simp only [go_sem] at hc; simp only [go_sem, *])) | refine Qh rfl ?_ | refine Qd rfl (by kernel_rfl) ?_ | (refine Qc rfl rfl ?_ ?_ <;> (intro hb; have hc := hb; try simp only [go_sem] at hc)) | refine z8 rfl ?_ | (refine Qb ?_ ?_; focus kernel_rfl) | (refine x7 [0] [] (sN) (by simp) ?_ ?_ (by simp) (.inl rfl) ?_ ?_ ?_; (iterate 2 (focus (simp only [go_sem, *]; done))); (iterate 2 (focus (first | (simp; done) | (simp [go_sem]; done)))); simp only [go_sem, *]) | (refine x7 [0] [] (so) (by simp) ?_ ?_ (by simp) (.inl rfl) ?_ ?_ ?_; (iterate 2 (focus (simp only [go_sem, *]; done))); (iterate 2 (focus (first | (simp; done) | (simp [go_sem]; done)))); simp only [go_sem, *]) | (refine x7 [0] [] (s2) (by simp) ?_ ?_ (by simp) (.inl rfl) ?_ ?_ ?_; (iterate 2 (focus (simp only [go_sem, *]; done))); (iterate 2 (focus (first | (simp; done) | (simp [go_sem]; done)))); simp only [go_sem, *]) | (refine x7 [0] [] (st) (by simp) ?_ ?_ (by simp) (.inl rfl) ?_ ?_ ?_; (iterate 2 (focus (simp only [go_sem, *]; done))); (iterate 2 (focus (first | (simp; done) | (simp [go_sem]; done)))); simp only [go_sem, *]) | (refine x7 [0] [] (s5) (by simp) ?_ ?_ (by simp) (.inl rfl) ?_ ?_ ?_; (iterate 2 (focus (simp only [go_sem, *]; done))); (iterate 2 (focus (first | (simp; done) | (simp [go_sem]; done)))); simp only [go_sem, *]) | ((with_reducible apply And.intro); focus omega) | (refine z7 hK ?_; clear hK; simp only [go_sem, *]) | simp only [z6, z5, go_sem, *])
      all_goals first | contradiction | omega | skip
      exact S8 (i' := i + 1) [some 0, some 3] [] (d5) (outs ++ [O4 z m]) (by exact hnext)
    ·unfold G1 at hq
     rw [if_neg hv] at hq
     obtain ⟨e1, e2⟩ := Prod.mk.inj hq
     clear hq
     subst e1 e2
     by_cases hv1 : 97 ≤ (z.getD 0 0).toNat
     ·have hv2 : ¬ 1 < z.length := fun h => hv ⟨hv1, h⟩
      clear hv
      repeat' (first | (refine Qr rfl ?_; try intro _ hK; try simp only [go_sem, *]) | (refine Qi rfl rfl rfl rfl ?_ ?_ <;> (intro hb; (try intro _ hK); have hc := hb; try simp only [go_sem] at hc; simp only [go_sem, *])) | refine Qh rfl ?_ | refine Qd rfl (by kernel_rfl) ?_ | (refine Qc rfl rfl ?_ ?_ <;> (intro hb; have hc := hb; try simp only [go_sem] at hc)) | refine z8 rfl ?_ | (refine Qb ?_ ?_; focus kernel_rfl) | (refine x7 [0] [] (sN) (by simp) ?_ ?_ (by simp) (.inl rfl) ?_ ?_ ?_; (iterate 2 (focus (simp only [go_sem, *]; done))); (iterate 2 (focus (first | (simp; done) | (simp [go_sem]; done)))); simp only [go_sem, *]) | (refine x7 [0] [] (so) (by simp) ?_ ?_ (by simp) (.inl rfl) ?_ ?_ ?_; (iterate 2 (focus (simp only [go_sem, *]; done))); (iterate 2 (focus (first | (simp; done) | (simp [go_sem]; done)))); simp only [go_sem, *]) | (refine x7 [0] [] (st) (by simp) ?_ ?_ (by simp) (.inl rfl) ?_ ?_ ?_; (iterate 2 (focus (simp only [go_sem, *]; done))); (iterate 2 (focus (first | (simp; done) | (simp [go_sem]; done)))); simp only [go_sem, *]) | ((with_reducible apply And.intro); focus omega) | (refine z7 hK ?_; clear hK; simp only [go_sem, *]) | simp only [z6, z5, go_sem, *])
      all_goals first | contradiction | omega | skip
      exact S8 (i' := i + 1) [some 0, some 3] [] (d3) (outs ++ [z]) (by exact hnext)
     ·clear hv
      repeat' (first | (refine Qr rfl ?_; try intro _ hK; try simp only [go_sem, *]) | (refine Qi rfl rfl rfl rfl ?_ ?_ <;> (intro hb; (try intro _ hK); have hc := hb; try simp only [go_sem] at hc; simp only [go_sem, *])) | refine Qh rfl ?_ | refine Qd rfl (by kernel_rfl) ?_ | (refine Qc rfl rfl ?_ ?_ <;> (intro hb; have hc := hb; try simp only [go_sem] at hc)) | refine z8 rfl ?_ | (refine Qb ?_ ?_; focus kernel_rfl) | (refine x7 [0] [] (sN) (by simp) ?_ ?_ (by simp) (.inl rfl) ?_ ?_ ?_; (iterate 2 (focus (simp only [go_sem, *]; done))); (iterate 2 (focus (first | (simp; done) | (simp [go_sem]; done)))); simp only [go_sem, *]) | (refine x7 [0] [] (so) (by simp) ?_ ?_ (by simp) (.inl rfl) ?_ ?_ ?_; (iterate 2 (focus (simp only [go_sem, *]; done))); (iterate 2 (focus (first | (simp; done) | (simp [go_sem]; done)))); simp only [go_sem, *]) | (refine x7 [0] [] (st) (by simp) ?_ ?_ (by simp) (.inl rfl) ?_ ?_ ?_; (iterate 2 (focus (simp only [go_sem, *]; done))); (iterate 2 (focus (first | (simp; done) | (simp [go_sem]; done)))); simp only [go_sem, *]) | ((with_reducible apply And.intro); focus omega) | (refine z7 hK ?_; clear hK; simp only [go_sem, *]) | simp only [z6, z5, go_sem, *])
      all_goals first | contradiction | omega | skip
      exact S8 (i' := i + 1) [some 0, some 3] [] (d3) (outs ++ [z]) (by exact hnext)
  ·unfold T7 at hq
   rw [if_neg h0] at hq
   obtain ⟨e1, e2⟩ := Prod.mk.inj hq
   clear hq
   subst e1 e2
   have h0i : ¬ (0 : Int) < (i : Int) := by omega
   clear hok
   refine wk1 (own [0] (sN)) ?_
   all_goals first | contradiction | omega | skip
   exact S8 (i' := i + 1) [some 0, some 3] [] (d1) (outs ++ [x]) (by exact hnext)
 ·rw [show n - i = 0 by omega] at hP
  have hP : (outs, d') = T := hP
  subst hP
  have hj : ¬ (0 : Int) < ((n - i : Nat) : Int) := by omega
  clear hok
  refine wk1 trivial ?_
  all_goals first | contradiction | omega | skip
  refine ⟨[_], [some 0, some 1], [], ⟨rfl, trivial⟩, ?_⟩
  simp only [go_sem, *]
end Go.Abs

namespace Go.Abs
open Go Go.Proofs Tryz
attribute [local irreducible] q9 Hold y2
variable [Cur]
theorem zNo (n : Nat) (d : Dice) (out : List Rule) : T3 (n + 1) d out = T3 n (v6 wordsT (v6 wordsF d)) (out ++ [⟨Y0 wordsF d, Y0 wordsT (v6 wordsF d)⟩]) := rfl
theorem zO2 (d : Dice) (many : Int) (h : d.list.length ≤ 4294967296) (hm : 0 ≤ many ∧ many ≤ 1000) :
  zUL prog 23 [.ptr 0 0, iV many] [y3 d] (.own 1 2 0 (H5 d many).1.length) [y3 (H5 d many).2, .row 2 ((H5 d many).1.map Rule.enc)] := by
 have st := R1 d many h (by omega)
 have hle := W1 hm.1 d
 have hT : H5 d many = T3 (toN many d).toNat (toD many d) [] := rfl
 rw [hT]
 clear hT
 obtain ⟨n, hn⟩ : ∃ n : Nat, toN many d = n := ⟨_, (Int.toNat_of_nonneg hle.1).symm⟩
 rw [hn] at st hle ⊢
 rw [Int.toNat_natCast]
 have hn6 : n ≤ 1000 := by omega
 generalize hT3 : T3 n (toD many d) [] = T at *
 have hdl : (toD many d).list.length ≤ 4294967296 := by rw [o0]; exact h
 generalize toD many d = dd at *
 clear hn hle h hm
 refine z9 func23 rfl (fun E hE => ?_); simp only [go_sem, ntmps23]
 refine wk1 (own [0] (st)) ?_
 refine A6 rfl (n) (fun i (d' : Dice) (outs : List Rule) => T3 (n - i) d' outs = T ∧ d'.list.length ≤ 4294967296 ∧ outs.length = i) 27 (fun i d' outs => [(6, iV ((n - i : Nat) : Int)), (5, .own 1 2 0 i), (0, .ptr 0 0)]) (fun i d' outs => [y3 d', .row 2 (outs.map Rule.enc)]) [some 0, none] [] (dd) ([]) (by exact ⟨hT3, hdl, rfl⟩) ?_; intro i d' outs hi hP
 clear hT3 hdl st
 obtain ⟨hP, hdl, hlen⟩ := hP
 by_cases hi2 : i < n
 ·rw [show n - i = (n - (i + 1)) + 1 by omega, zNo] at hP
  have s1 := zBu d' wordsF hdl (by decide) (by decide)
  have hd1 : (v6 wordsF d').list.length ≤ 4294967296 := by unfold v6; rw [o0]; exact hdl
  have s2 := zBu (v6 wordsF d') wordsT hd1 (by decide) (by decide)
  have hd2 : (v6 wordsT (v6 wordsF d')).list.length ≤ 4294967296 := by unfold v6; rw [o0]; exact hd1
  generalize v6 wordsF d' = d1 at *
  generalize v6 wordsT d1 = d2 at *
  generalize Y0 wordsF d' = u at *
  generalize Y0 wordsT d1 = v at *
  have hw2 : IntKind.i64.wrap (((n - i : Nat) : Int) - 1) = ((n - (i + 1) : Nat) : Int) := by rw [wrap_i64 (by omega) (by omega)]; omega
  have hj : (0 : Int) < ((n - i : Nat) : Int) := by omega
  have hnext : T3 (n - (i + 1)) d2 (outs ++ [⟨u, v⟩]) = T ∧ d2.list.length ≤ 4294967296 ∧ (outs ++ [(⟨u, v⟩ : Rule)]).length = i + 1 := ⟨hP, hd2, by simp [hlen]⟩
  have hw0 : y4 wordsF = .list [sV [101], sV [121], sV [115, 104], sV [97], sV [110, 110], sV [116, 104], sV [109]] := rfl
  have hw1 : y4 wordsT = .list [sV [], sV [105], sV [115], sV [116], sV [97, 101], sV [106], sV [110]] := rfl
  rw [hw0] at s1
  rw [hw1] at s2
  clear hw0 hw1 hP
  repeat' (first | (refine Qr rfl ?_; try intro _ hK; try simp only [go_sem, *]) | refine Qh rfl ?_ | (refine Qc rfl rfl ?_ ?_ <;> (intro hb; have hc := hb; try simp only [go_sem] at hc)) | refine z8 rfl ?_ | ((with_reducible apply And.intro); focus omega) | (refine z7 hK ?_; clear hK; simp only [go_sem, *]) | simp only [z6, z5, go_sem, *])
  refine M5 [0] [2] s1 rfl (by simp only [go_sem]) (by simp) ?_ ?_ (by simp [go_sem]) (by simp [go_sem]) ?_
  ·simp only [go_sem, *]
  ·simp only [go_sem, *]
  simp only [go_sem, w5, *]
  repeat' (first | (refine Qr rfl ?_; try intro _ hK; try simp only [go_sem, *]) | refine Qh rfl ?_ | (refine Qc rfl rfl ?_ ?_ <;> (intro hb; have hc := hb; try simp only [go_sem] at hc)) | refine z8 rfl ?_ | ((with_reducible apply And.intro); focus omega) | (refine z7 hK ?_; clear hK; simp only [go_sem, *]) | simp only [z6, z5, go_sem, *])
  refine M5 [0] [3] s2 rfl (by simp only [go_sem]) (by simp) ?_ ?_ (by simp [go_sem]) (by simp [go_sem]) ?_
  ·simp only [go_sem, *]
  ·simp only [go_sem, *]
  simp only [go_sem, w5, *]
  repeat' (first | (refine Qr rfl ?_; try intro _ hK; try simp only [go_sem, *]) | refine Qh rfl ?_ | (refine Qc rfl rfl ?_ ?_ <;> (intro hb; have hc := hb; try simp only [go_sem] at hc)) | refine z8 rfl ?_ | ((with_reducible apply And.intro); focus omega) | (refine z7 hK ?_; clear hK; simp only [go_sem, *]) | simp only [z6, z5, go_sem, *])
  all_goals first | contradiction | omega | skip
  exact S8 (i' := i + 1) [some 0, some 6] [] (d2) (outs ++ [(⟨u, v⟩ : Rule)]) (by exact hnext)
 ·rw [show n - i = 0 by omega] at hP
  have hP : (outs, d') = T := hP
  subst hP
  have hj : ¬ (0 : Int) < ((n - i : Nat) : Int) := by omega
  refine wk1 trivial ?_
  all_goals first | contradiction | omega | skip
  refine ⟨[_], [some 0, some 1], [], ⟨rfl, trivial⟩, ?_⟩
  simp only [go_sem, *]
end Go.Abs

namespace Go.Abs
open Go Go.Proofs Tryz
attribute [local irreducible] q9 Hold y2
variable [Cur]
omit [Cur] in
theorem zA0 {S : Type} (n : Nat) (s0 : S) (R : Nat → S → S → Prop) (G : Nat → S → Prop) (h0 : G 0 s0) (h : ∀ i s, i < n → G i s → ∃ s', R i s s' ∧ G (i + 1) s') :
  ∃ q : Nat → S, q 0 = s0 ∧ (∀ i, i < n → R i (q i) (q (i + 1))) ∧ ∀ i, i ≤ n → G i (q i) := by
 classical
 let f : Nat → S → S := fun i s => if h' : i < n ∧ G i s then Classical.choose (h i s h'.1 h'.2) else s
 let q : Nat → S := fun i => Nat.rec s0 (fun i s => f i s) i
 have hq : ∀ i, i ≤ n → G i (q i) := by
  intro i
  induction i with
  | zero => intro _; exact h0
  | succ i ih =>
   intro hi
   have g := ih (by omega)
   show G (i + 1) (f i (q i))
   simp only [f]
   rw [dif_pos ⟨by omega, g⟩]
   exact (Classical.choose_spec (h i (q i) (by omega) g)).2
 refine ⟨q, rfl, fun i hi => ?_, hq⟩
 have g := hq i (by omega)
 show R i (q i) (f i (q i))
 simp only [f]
 rw [dif_pos ⟨hi, g⟩]
 exact (Classical.choose_spec (h i (q i) hi g)).1
abbrev DOk (d : Dice) : Prop := d.list.length ≤ 4294967296
theorem E1 (d : Dice) (n : Int) (h : DOk d) (hn : n ≤ 4294967296) : ∃ (k : Nat) (d' : Dice), zUL prog 27 [.ptr 0 0, iV n] [y3 d] (iV k) [y3 d'] ∧ (0 ≤ n → (k : Int) ≤ n) ∧ (n < 0 → k = 0) ∧ DOk d' := by
 have hle := zD3 n d
 obtain ⟨k, hk⟩ : ∃ k : Nat, toN n d = k := ⟨_, (Int.toNat_of_nonneg hle.1).symm⟩
 refine ⟨k, toD n d, ?_, fun h0 => by have := W1 h0 d; omega, fun h0 => ?_, by unfold DOk; rw [o0]; exact h⟩
 ·have := R1 d n h hn
  rwa [hk] at this
 ·have : toN n d = 0 := by unfold toN; rw [if_pos (by omega)]
  omega
theorem E0 (d : Dice) (n : Int) (h : DOk d) (hn : 0 ≤ n ∧ n ≤ 4294967296) : ∃ (t : Bool) (d' : Dice), zUL prog 26 [.ptr 0 0, iV n] [y3 d] (bV t) [y3 d'] ∧ DOk d' :=
 ⟨_, _, zBt d n h hn, by unfold DOk r8; rw [o0]; exact h⟩
theorem O5 (d : Dice) (lo hi : Int) (h : DOk d) (hl : -1000 ≤ lo ∧ lo ≤ hi) (hh : hi ≤ 1000000) : ∃ (k : Int) (d' : Dice), zUL prog 20 [.ptr 0 0, iV lo, iV hi] [y3 d] (iV k) [y3 d'] ∧ (lo ≤ k ∧ k ≤ hi) ∧ DOk d' := by
 have st := R1 d (hi - lo) h (by omega)
 have hf := zBU hl.2 d
 have e1 : IntKind.i64.wrap (hi - lo) = hi - lo := wrap_i64 (by omega) (by omega)
 have e2 : IntKind.i64.wrap (lo + toN (hi - lo) d) = X4 lo hi d := by
  have : lo + toN (hi - lo) d = X4 lo hi d := rfl
  rw [this]; exact wrap_i64 (by omega) (by omega)
 have hd : DOk (toD (hi - lo) d) := by unfold DOk; rw [o0]; exact h
 refine ⟨X4 lo hi d, toD (hi - lo) d, ?_, hf, hd⟩
 generalize X4 lo hi d = r at *
 clear hf hl hd
 refine z9 func20 rfl (fun E hE => ?_); simp only [go_sem, ntmps20]
 refine wk1 (own [0] (st)) ?_
 refine ⟨[_], [some 0], [], ⟨rfl, trivial⟩, ?_⟩
 simp only [go_sem, *]
theorem zCa (d : Dice) (l : List Int) (h : DOk d) (h0 : 0 < l.length) (h1 : l.length ≤ 1000) : ∃ (x : Int) (d' : Dice), zUL prog 21 [.ptr 0 0, .list (l.map iV)] [y3 d] (iV x) [y3 d'] ∧ x ∈ l ∧ DOk d' := by
 have st := R1 d ((l.length : Int) - 1) h (by omega)
 have hle := W1 (n := (l.length : Int) - 1) (by omega) d
 have hw : IntKind.i64.wrap ((l.length : Int) - 1) = (l.length : Int) - 1 := wrap_i64 (by omega) (by omega)
 obtain ⟨n, hn⟩ : ∃ n : Nat, toN ((l.length : Int) - 1) d = n := ⟨_, (Int.toNat_of_nonneg hle.1).symm⟩
 rw [hn] at st hle
 have hlt : n < l.length := by omega
 have hd : DOk (toD ((l.length : Int) - 1) d) := by unfold DOk; rw [o0]; exact h
 refine ⟨l.getD n default, _, ?_, u5 hlt, hd⟩
 generalize toD ((l.length : Int) - 1) d = d2 at *
 clear hn hle
 refine z9 func21 rfl (fun E hE => ?_); simp only [go_sem, ntmps21]
 refine wk1 (own [0] (st)) ?_
 refine ⟨[_], [some 0], [], ⟨rfl, trivial⟩, ?_⟩
 simp only [go_sem, *]
theorem zJ9 (l : List Int) (h : l.length ≤ 4294967296) : ∃ d : Dice, zUL prog 5 [E2 l] [] (.ptr 0 0) [y3 d] ∧ DOk d := ⟨_, zO1 l, h⟩
theorem zJ8 (d : Dice) (many most : Int) (h : DOk d) (hm : 0 ≤ many ∧ many ≤ 1000) (h1 : 1 ≤ most ∧ most ≤ 1000) : ∃ (l : List Str) (d' : Dice), zUL prog 24 [.ptr 0 0, iV many, iV most] [y3 d] (.own 1 1 0 l.length) [y3 d', .row 1 (l.map sV)] ∧
  (∀ s, s ∈ l → ValidN s) ∧ (l.length : Int) ≤ many ∧ DOk d' := by
 obtain ⟨a, b, c⟩ := zMx (d := d) hm.1 h1.1
 exact ⟨_, _, zO0 d many most h hm h1, fun s hs => (a s hs).1, b, by unfold DOk; rw [c]; exact h⟩
theorem zKC (d : Dice) (many : Int) (h : DOk d) (hm : 0 ≤ many ∧ many ≤ 4) : ∃ (r : List Rule) (d' : Dice), zUL prog 23 [.ptr 0 0, iV many] [y3 d] (.own 1 2 0 r.length) [y3 d', .row 2 (r.map Rule.enc)] ∧
  p8 r = 0 ∧ (r.length : Int) ≤ many ∧ DOk d' := by
 obtain ⟨a, b, c⟩ := zNp (d := d) hm
 exact ⟨_, _, zO2 d many h (by omega), a, b, by unfold DOk; rw [c]; exact h⟩
end Go.Abs

namespace Go.Abs
open Go
theorem B4 {α : Type} (cmp : α → α → Int) : ∀ (xs ys : List α) (b : Option α), y7 cmp b (xs ++ ys) = y7 cmp (y7 cmp b xs) ys
 | [], ys, b => by rw [List.nil_append]; cases b <;> rfl
 | x :: r, ys, none => by
  rw [List.cons_append, y7, y7]; exact B4 cmp r ys _
 | x :: r, ys, some y => by
  rw [List.cons_append, y7, y7]
  split
  ·exact B4 cmp r ys _
  ·exact B4 cmp r ys _
theorem zCg {α : Type} (cmp : α → α → Int) (x : α) : ∀ b : Option α, y7 cmp b [x] = match b with
  | none => some x
  | some y => if cmp x y < 0 then some x else some y
 | none => rfl
 | some y => by
  rw [y7]
  by_cases h : cmp x y < 0
  ·simp only [if_pos h, y7]
  ·simp only [if_neg h, y7]
def R2 (l : List Rule) (to : Str) (n : Nat) (pre : List Str) (S : List Str × Option (List Str)) (s : Str) : List Str × Option (List Str) :=
 if s ∈ S.1 then S else (S.1 ++ [s], y7 zUP S.2 (i4 l to n s pre))
theorem zCj (l : List Rule) (to : Str) (n : Nat) (pre : List Str) : ∀ (L m m' : List Str) (B : Option (List Str)), (∀ x, x ∈ m ↔ x ∈ m') →
  (L.foldl (R2 l to n pre) (m, B)).2 = y7 zUP B ((M7 m' L).flatMap fun s => i4 l to n s pre)
 | [], m, m', B, _ => by
  simp only [List.foldl_nil, M7, List.flatMap_nil]
  cases B <;> rfl
 | x :: r, m, m', B, h => by
  rw [List.foldl_cons, M7]
  by_cases hx : x ∈ m'
  ·rw [if_pos hx, R2, if_pos ((h x).2 hx)]
   exact zCj l to n pre r m m' B h
  ·rw [if_neg hx, R2, if_neg (fun k => hx ((h x).1 k)), List.flatMap_cons, B4]
   exact zCj l to n pre r _ _ _ (fun y => by simp only [List.mem_append, List.mem_cons, List.not_mem_nil, or_false, h y]; exact or_comm)
theorem zLC (l : List Rule) (to : Str) (n : Nat) (now : Str) (pre : List Str) (B : Option (List Str)) :
  ((Y3 l now).foldl (R2 l to n (pre ++ [now])) ([], B)).2 = y7 zUP B (i4 l to (n + 1) now pre) := by
 rw [zCj l to n (pre ++ [now]) (Y3 l now) [] [] B (fun _ => Iff.rfl), i4, zBN]
def zU1 (m : List Str) (x : Str) : List Str := if x ∈ m then m else m ++ [x]
theorem zMr {m : List Str} {x y : Str} : y ∈ zU1 m x ↔ y ∈ m ∨ y = x := by
 unfold zU1
 split
 ·rename_i h
  constructor
  ·exact .inl
  ·rintro (h2 | rfl)
   ·exact h2
   ·exact h
 ·rw [List.mem_append, List.mem_singleton]
def zUs (k : Str) (m : List Str) (now : Str) : List Str := if now.length < k.length then zU1 m now else m
def goC (k : Str) : Nat → List Str → Str → Nat → List Str
 | 0, m, now, _ => zUs k m now
 | n + 1, m, now, at_ => (List.range' at_ (k.length - at_)).foldl (fun m i => goC k n m (now ++ [k.getD i 0]) (i + 1)) (zUs k m now)
def R8 (k : Str) (n : Nat) (m : List Str) (now : Str) (i : Nat) : List Str := (List.range' i (k.length - i)).foldl (fun m i => goC k n m (now ++ [k.getD i 0]) (i + 1)) m
theorem zCp (k : Str) (n : Nat) (m : List Str) (now : Str) (i : Nat) : goC k (n + 1) m now i = R8 k n (zUs k m now) now i := rfl
theorem zBW {k : Str} {n : Nat} {m : List Str} {now : Str} {i : Nat} (h : k.length ≤ i) : R8 k n m now i = m := by
 unfold R8
 rw [show k.length - i = 0 by omega]; rfl
theorem zCo {k : Str} {n : Nat} {m : List Str} {now : Str} {i : Nat} (h : i < k.length) : R8 k n m now i = R8 k n (goC k n m (now ++ [k.getD i 0]) (i + 1)) now (i + 1) := by
 unfold R8
 rw [show k.length - i = (k.length - (i + 1)) + 1 by omega, List.range'_succ, List.foldl_cons]
theorem mem_metC {k : Str} {m : List Str} {now x : Str} : x ∈ zUs k m now ↔ x ∈ m ∨ (x = now ∧ x.length < k.length) := by
 unfold zUs
 split
 ·rename_i h
  rw [zMr]
  constructor
  ·rintro (h1 | rfl)
   ·exact .inl h1
   ·exact .inr ⟨rfl, h⟩
  ·rintro (h1 | ⟨rfl, _⟩)
   ·exact .inl h1
   ·exact .inr rfl
 ·rename_i h
  constructor
  ·exact .inl
  ·rintro (h1 | ⟨rfl, h1⟩)
   ·exact h1
   ·exact absurd h1 h
theorem zDI {k : Str} : ∀ {n : Nat} {m : List Str} {now : Str} {i : Nat} {x : Str}, k.length - i ≤ n → (x ∈ goC k n m now i ↔ x ∈ m ∨ ∃ t : Str, t.Sublist (k.drop i) ∧ x = now ++ t ∧ x.length < k.length)
 | 0, m, now, i, x, h => by
  rw [goC, mem_metC, List.drop_eq_nil_of_le (by omega)]
  constructor
  ·rintro (h1 | ⟨rfl, h1⟩)
   ·exact .inl h1
   ·exact .inr ⟨[], List.Sublist.refl _, by simp, h1⟩
  ·rintro (h1 | ⟨t, ht, rfl, h1⟩)
   ·exact .inl h1
   ·rw [List.sublist_nil.1 ht] at h1 ⊢
    exact .inr ⟨by simp, h1⟩
 | n + 1, m, now, i, x, h => by
  have key : ∀ (d i : Nat) (m : List Str), k.length - i = d → d ≤ n + 1 → (x ∈ R8 k n m now i ↔ x ∈ m ∨ ∃ t : Str, t ≠ [] ∧ t.Sublist (k.drop i) ∧ x = now ++ t ∧ x.length < k.length) := by
   intro d
   induction d with
   | zero =>
    intro i m hi _
    rw [zBW (by omega), List.drop_eq_nil_of_le (by omega)]
    constructor
    ·exact .inl
    ·rintro (h1 | ⟨t, hn, ht, _⟩)
     ·exact h1
     ·exact absurd (List.sublist_nil.1 ht) hn
   | succ d ih =>
    intro i m hi hd
    have hlt : i < k.length := by omega
    rw [zCo hlt, ih (i + 1) _ (by omega) (by omega), zDI (by omega)]
    have hdr : k.drop i = k.getD i 0 :: k.drop (i + 1) := by
     rw [List.drop_eq_getElem_cons hlt]; simp [List.getD, hlt]
    rw [hdr]
    constructor
    ·rintro ((h1 | ⟨t, ht, rfl, h1⟩) | ⟨t, hn, ht, rfl, h1⟩)
     ·exact .inl h1
     ·exact .inr ⟨k.getD i 0 :: t, by simp, ht.cons_cons _, by simp, h1⟩
     ·exact .inr ⟨t, hn, ht.cons _, rfl, h1⟩
    ·rintro (h1 | ⟨t, hn, ht, rfl, h1⟩)
     ·exact .inl (.inl h1)
     ·cases ht with
      | cons _ ht => exact .inr ⟨t, hn, ht, rfl, h1⟩
      | cons_cons _ ht => exact .inl (.inr ⟨_, ht, by simp, h1⟩)
  rw [zCp, key _ i _ rfl (by omega), mem_metC]
  constructor
  ·rintro ((h1 | ⟨rfl, h1⟩) | ⟨t, _, h2⟩)
   ·exact .inl h1
   ·exact .inr ⟨[], List.nil_sublist _, by simp, h1⟩
   ·exact .inr ⟨t, h2⟩
  ·rintro (h1 | ⟨t, ht, rfl, h1⟩)
   ·exact .inl (.inl h1)
   ·by_cases hn : t = []
    ·subst hn
     exact .inl (.inr ⟨by simp, h1⟩)
    ·exact .inr ⟨t, hn, ht, rfl, h1⟩
def J2 (k : Str) : List Str := goC k k.length [] (k.take 1) 1
theorem zGH {k x : Str} : x ∈ J2 k ↔ T6 k x := by
 unfold J2 T6
 rw [zDI (by omega)]
 simp
end Go.Abs

namespace Go.Abs
open Go Go.Proofs Tryz
attribute [local irreducible] q9 Hold y2
variable [Cur]
theorem zFs : Maps.Keyed prog 94 := Maps.Keyed.of_law (WideMaps.string_law (by kernel_rfl))
abbrev zUX (s : Str) : Value := .string ⟨s.toArray⟩
theorem zBc (s : Str) (hs : s.length ≤ 1000) : zVA prog 94 (zUX s) := by
 have hu : prog.underlying 94 = some .string := by kernel_rfl
 refine ⟨rfl, ?_⟩
 unfold keyOf
 rw [hu]
 simp [mapKey, hu, maxLen]
 omega
theorem sKey_inj {a b : Str} : zUX a = zUX b ↔ a = b := by simp [zUX]
theorem zCw (h : Str) : ∀ hs : List Str, zUo (zUX h) (hs.map zUX) = if h ∈ hs then some (hs.idxOf h) else none
 | [] => by simp [zUo]
 | x :: r => by
  have ih := zCw h r
  rw [List.map_cons]
  unfold zUo
  by_cases e : x = h
  ·subst e; simp
  ·have e' : ¬ zUX x = zUX h := fun k => e (sKey_inj.1 k)
   rw [if_neg e', ih]
   by_cases hm : h ∈ r
   ·rw [if_pos hm, if_pos (by simp [hm])]
    have hb : (x == h) = false := by simpa using e
    simp [List.idxOf_cons, hb]
   ·rw [if_neg hm, if_neg (by simp only [List.mem_cons, not_or]; exact ⟨fun k => e k.symm, hm⟩)]; rfl
theorem zMf (m : List Str) (s : Str) : P1 (m.map zUX) (m.map fun _ => bV true) (zUX s) (bV false) = bV (decide (s ∈ m)) := by
 unfold P1; rw [zCw]
 by_cases hm : s ∈ m
 ·rw [if_pos hm]
  have hlt := List.idxOf_lt_length_of_mem hm
  simp [hlt, hm]
 ·rw [if_neg hm]; simp [hm]
theorem zNS (m : List Str) (s : Str) : zVb (m.map zUX) (zUX s) = (zU1 m s).map zUX ∧ zVc (m.map zUX) (m.map fun _ => bV true) (zUX s) (bV true) = (zU1 m s).map fun _ => bV true := by
 unfold zVb zVc zU1
 rw [zCw]
 by_cases hm : s ∈ m
 ·rw [if_pos hm, if_pos hm]
  refine ⟨rfl, ?_⟩
  have hlt := List.idxOf_lt_length_of_mem hm
  apply List.ext_getElem (by simp)
  intro i h1 h2
  simp [List.getElem_set]
 ·rw [if_neg hm, if_neg hm]
  simp
theorem zGJ : zVQ prog 206 = some (94, 4) := by kernel_rfl
theorem zGC {m : List Str} {s : Str} {o : Nat} {H : Nat → AObj} {K : Cont} (hm : ∀ x, x ∈ m → x.length ≤ 1000) (hs : s.length ≤ 1000) (ho : H o = .mapo (m.map zUX) (m.map fun _ => bV true)) (hk : K (bV (decide (s ∈ m))) [o] []) : I8 prog 206 (.mp o) (sV s) false H K := by
 have hz : zeroT prog 4 = some (.bool false) := by kernel_rfl
 unfold I8
 rw [zGJ]
 simp only [zVR, hz, ho]
 refine ⟨zFs, zBc s hs, by simp [Value.cells, Value.oneCell'], fun q hq => ?_, ?_⟩
 ·obtain ⟨k, hk, rfl⟩ := List.mem_map.1 hq; exact zBc k (hm k hk)
 ·have e : zAV (.bool false) = bV false := rfl
  rw [e, zMf]; simpa using hk
theorem zD4 {m : List Str} {s : Str} {o : Nat} {H : Nat → AObj} {K : Cont} (hm : ∀ x, x ∈ m → x.length ≤ 1000) (hs : s.length ≤ 1000) (ho : H o = .mapo (m.map zUX) (m.map fun _ => bV true)) (hk : K (.tup []) [o] [(o, .mapo ((zU1 m s).map zUX) ((zU1 m s).map fun _ => bV true))]) : N1 prog 206 (.mp o) (sV s) (bV true) H K := by
 unfold N1
 rw [zGJ]
 simp only [zVR, ho]
 obtain ⟨h1, h2⟩ := zNS m s
 refine ⟨zFs, zBc s hs, fun q hq => ?_, .raw _, rfl, ?_⟩
 ·obtain ⟨k, hk, rfl⟩ := List.mem_map.1 hq; exact zBc k (hm k hk)
 ·have e : zUO H 3 (bV true) = (bV true, []) := rfl
  rw [e, h1, h2]; simpa [w5] using hk
theorem zDh (l : List Str) (h1 : l.length ≤ 4294967296) : zUL prog 214 [y4 l] [] (.own 0 1 0 l.length) [.row 1 (l.map sV)] := by
 cases l with
 | nil =>
  refine zQL (fun a c => ?_)
  refine z9 func214 rfl (fun E hE => ?_); simp only [go_sem, ntmps214]
  refine wk2 trivial ?_ ?_
  ·refine ⟨[_], [none], [], ⟨rfl, trivial⟩, ?_⟩
   simp only [go_sem, *]
   simp
  ·refine ⟨[_], [some 1], [], ⟨rfl, trivial⟩, ?_⟩
   simp only [go_sem, *]
 | cons x r =>
  have h2 : r.length + 1 ≤ 4294967296 := by simpa using h1
  refine z9 func214 rfl (fun E hE => ?_); simp only [go_sem, ntmps214]
  repeat' (first | (refine Qr rfl ?_; try intro _ hK; try simp only [go_sem, *]) | refine Qh rfl ?_ | (refine Qc rfl rfl ?_ ?_ <;> (intro hb; have hc := hb; try simp only [go_sem] at hc)) | refine z8 rfl ?_ | ((with_reducible apply And.intro); focus omega) | (refine z7 hK ?_; clear hK; simp only [go_sem, *]) | simp only [z6, z5, go_sem, *])
  all_goals try contradiction
  refine ⟨fun y hy => ?_, fun y hy => ?_, by omega, by omega, ?_⟩
  ·obtain ⟨z, _, rfl⟩ := List.mem_map.1 hy
   simp [go_sem]
  ·obtain ⟨z, _, rfl⟩ := List.mem_map.1 hy
   simp [go_sem]
  ·repeat' (first | (refine Qr rfl ?_; try intro _ hK; try simp only [go_sem, *]) | refine Qh rfl ?_ | (refine Qc rfl rfl ?_ ?_ <;> (intro hb; have hc := hb; try simp only [go_sem] at hc)) | refine z8 rfl ?_ | ((with_reducible apply And.intro); focus omega) | (refine z7 hK ?_; clear hK; simp only [go_sem, *]) | simp only [z6, z5, go_sem, *])
   refine ⟨[_], [some 1], [], ⟨rfl, trivial⟩, ?_⟩
   simp only [go_sem, *]
end Go.Abs

namespace Go.Abs
open Go Go.Proofs Tryz
attribute [local irreducible] q9 Hold y2
variable [Cur]
noncomputable def zE7 : Code := sub [0, 1, 0, 1, 1, 1] (W3 Tryz.f187)
noncomputable def W6 (fn : FuncId) : LoopK := ⟨fn, #[10], D2 zE7, D3 zE7, 23⟩
def Q6 : Option (List Str) → AV
 | none => .raw (.slice none 0 0)
 | some c => y4 c
@[go_sem] theorem zSR : Q6 none = .raw (.slice none 0 0) := rfl
@[go_sem] theorem zSS (c : List Str) : Q6 (some c) = .list (c.map sV) := rfl
@[go_sem] theorem zR1 (H : Nat → AObj) (m : List (Option Nat)) (ex : List Nat) (B : Option (List Str)) : XpF H m ex (Q6 B) (Q6 B) ↔ True := by cases B <;> simp [Q6, XpF]
@[go_sem] theorem zTw (f : Nat → Nat) (B : Option (List Str)) : AV.ren f (Q6 B) = Q6 B := by cases B <;> simp [Q6, AV.ren]
abbrev T8 : AV := fnV 189
theorem zRl (fn : FuncId) (c : List Str) : Y4 prog [y4 c] [.loopo (W6 fn) [(3, .ptr 1 0), (6, .ptr 2 0), (7, .ptr 3 0)] (some none), .box [T8], .box [.raw (.slice none 0 0)], .box [bV false]] (bV true)
  [.loopo (W6 fn) [(3, .ptr 1 0), (6, .ptr 2 0), (7, .ptr 3 0)] (some none), .box [T8], .box [y4 c], .box [bV true]] := by
 refine K3 (L := W6 fn) (env := [(3, .ptr 1 0), (6, .ptr 2 0), (7, .ptr 3 0)]) (j := none) rfl rfl (fun E l hE => ?_)
 refine o8 rfl ?_
 simp only [W6, X8, go_sem]
 repeat' (first | (refine Qr (ops := _ :: _) rfl ?_; try intro _ hK; try simp only [go_sem, *]) | (refine Qi rfl rfl rfl rfl ?_ ?_ <;> (intro hb; (try intro _ hK); have hc := hb; try simp only [go_sem] at hc; simp only [go_sem, *])) | (refine Qb ?_ ?_; focus kernel_rfl) | ((with_reducible apply And.intro); focus omega) | (refine z7 hK ?_; clear hK; simp only [go_sem, *]) | simp only [z6, z5, go_sem, *])
 refine w7 ?_
 refine ⟨by simp only [go_sem], ?_⟩
 refine L3 (id := 1) rfl ?_
 refine T2 rfl ?_
 refine o8 rfl ?_
 simp only [go_sem]
 repeat' (first | (refine Qr (ops := _ :: _) rfl ?_; try intro _ hK; try simp only [go_sem, *]) | (refine Qi rfl rfl rfl rfl ?_ ?_ <;> (intro hb; (try intro _ hK); have hc := hb; try simp only [go_sem] at hc; simp only [go_sem, *])) | (refine Qb ?_ ?_; focus kernel_rfl) | ((with_reducible apply And.intro); focus omega) | (refine z7 hK ?_; clear hK; simp only [go_sem, *]) | simp only [z6, z5, go_sem, *])
 refine w7 ?_
 refine N4 (t := true) rfl (by simp only [go_sem]) (fun _ => ?_) (fun h => by cases h)
 refine o8 rfl ?_
 simp only [go_sem]
 repeat' (first | (refine Qr (ops := _ :: _) rfl ?_; try intro _ hK; try simp only [go_sem, *]) | (refine Qi rfl rfl rfl rfl ?_ ?_ <;> (intro hb; (try intro _ hK); have hc := hb; try simp only [go_sem] at hc; simp only [go_sem, *])) | (refine Qb ?_ ?_; focus kernel_rfl) | ((with_reducible apply And.intro); focus omega) | (refine z7 hK ?_; clear hK; simp only [go_sem, *]) | simp only [z6, z5, go_sem, *])
 refine w7 ?_
 simp only [z5, go_sem]
 refine ⟨rfl, [some 0, some 1, some 2, some 3], [], ?_⟩
 simp only [go_sem, *]
theorem zRm (fn : FuncId) (b c : List Str) (hb1 : b.length ≤ 1000) (hc1 : c.length ≤ 1000) : Y4 prog [y4 c] [.loopo (W6 fn) [(3, .ptr 1 0), (6, .ptr 2 0), (7, .ptr 3 0)] (some none), .box [T8], .box [y4 b], .box [bV true]] (bV true)
  [.loopo (W6 fn) [(3, .ptr 1 0), (6, .ptr 2 0), (7, .ptr 3 0)] (some none), .box [T8], .box [y4 (if zUP c b < 0 then c else b)], .box [bV true]] := by
 have hca : y9 prog 189 = true := by kernel_rfl
 have sc := zOa c b (by omega) (by omega)
 refine K3 (L := W6 fn) (env := [(3, .ptr 1 0), (6, .ptr 2 0), (7, .ptr 3 0)]) (j := none) rfl rfl (fun E l hE => ?_)
 refine o8 rfl ?_
 simp only [W6, X8, go_sem]
 repeat' (first | (refine Qr (ops := _ :: _) rfl ?_; try intro _ hK; try simp only [go_sem, *]) | (refine Qi rfl rfl rfl rfl ?_ ?_ <;> (intro hb; (try intro _ hK); have hc := hb; try simp only [go_sem] at hc; simp only [go_sem, *])) | (refine Qb ?_ ?_; focus kernel_rfl) | ((with_reducible apply And.intro); focus omega) | (refine z7 hK ?_; clear hK; simp only [go_sem, *]) | simp only [z6, z5, go_sem, *])
 refine w7 ?_
 refine ⟨by simp only [go_sem], ?_⟩
 refine L3 (id := 1) rfl ?_
 refine T2 rfl ?_
 refine o8 rfl ?_
 simp only [go_sem]
 repeat' (first | (refine Qr (ops := _ :: _) rfl ?_; try intro _ hK; try simp only [go_sem, *]) | (refine Qi rfl rfl rfl rfl ?_ ?_ <;> (intro hb; (try intro _ hK); have hc := hb; try simp only [go_sem] at hc; simp only [go_sem, *])) | (refine Qb ?_ ?_; focus kernel_rfl) | ((with_reducible apply And.intro); focus omega) | (refine z7 hK ?_; clear hK; simp only [go_sem, *]) | simp only [z6, z5, go_sem, *])
 refine y6 sc ?_
 simp only [go_sem]
 repeat' (first | (refine Qr (ops := _ :: _) rfl ?_; try intro _ hK; try simp only [go_sem, *]) | (refine Qi rfl rfl rfl rfl ?_ ?_ <;> (intro hb; (try intro _ hK); have hc := hb; try simp only [go_sem] at hc; simp only [go_sem, *])) | (refine Qb ?_ ?_; focus kernel_rfl) | ((with_reducible apply And.intro); focus omega) | (refine z7 hK ?_; clear hK; simp only [go_sem, *]) | simp only [z6, z5, go_sem, *])
 refine w7 ?_
 refine N4 (t := decide (zUP c b < 0)) rfl (by simp only [go_sem]) (fun h => ?_) (fun h => ?_)
 ·rw [if_pos (by simpa using h)]
  refine o8 rfl ?_
  simp only [go_sem]
  repeat' (first | (refine Qr (ops := _ :: _) rfl ?_; try intro _ hK; try simp only [go_sem, *]) | (refine Qi rfl rfl rfl rfl ?_ ?_ <;> (intro hb; (try intro _ hK); have hc := hb; try simp only [go_sem] at hc; simp only [go_sem, *])) | (refine Qb ?_ ?_; focus kernel_rfl) | ((with_reducible apply And.intro); focus omega) | (refine z7 hK ?_; clear hK; simp only [go_sem, *]) | simp only [z6, z5, go_sem, *])
  refine w7 ?_
  simp only [z5, go_sem]
  refine ⟨rfl, [some 0, some 1, some 2, some 3], [], ?_⟩
  simp only [go_sem, *]
 ·rw [if_neg (by simpa using h)]
  refine zAJ rfl ?_
  simp only [z5, go_sem]
  refine ⟨rfl, [some 0, some 1, some 2, some 3], [], ?_⟩
  simp only [go_sem, *]
theorem zRk (fn : FuncId) (B : Option (List Str)) (c : List Str) (hb1 : ∀ b, B = some b → b.length ≤ 1000) (hc1 : c.length ≤ 1000) : Y4 prog [y4 c] [.loopo (W6 fn) [(3, .ptr 1 0), (6, .ptr 2 0), (7, .ptr 3 0)] (some none), .box [T8], .box [Q6 B], .box [bV B.isSome]] (bV true)
  [.loopo (W6 fn) [(3, .ptr 1 0), (6, .ptr 2 0), (7, .ptr 3 0)] (some none), .box [T8], .box [Q6 (y7 zUP B [c])], .box [bV (y7 zUP B [c]).isSome]] := by
 cases B with
 | none => exact zRl fn c
 | some b =>
  have := zRm fn b c (hb1 b rfl) hc1
  rw [zCg]
  by_cases h : zUP c b < 0
  ·simp only [if_pos h] at this ⊢; exact this
  ·simp only [if_neg h] at this ⊢; exact this
end Go.Abs

